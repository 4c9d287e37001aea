/- Walks: the text of a log. -/
import Derived.Test.YtpnpidepkfnofaaGreatDoorNumT
import Derived.Test.YtpnpidepkfnofaaGreatDoorLog
namespace Go.Proofs.YtpnpidepkfnofaaGreatDoor
open Go.RowKit

def NamesPost (n0 n1 n2 n3 : ByteArray) (w : World) (e : Ending) (w' : World) : Prop := ∃ r, w.heap.size ≤ r ∧ e = .returned (.slice (some ⟨r, 0, none⟩) 4 4) ∧ Below w.heap.size w w' ∧ Blk r #[.string n0, .string n1, .string n2, .string n3] 9 w'
def nmV (n0 n1 n2 n3 : ByteArray) (k : Int) : ByteArray := if k = 0 then n0 else if k = 1 then n1 else if k = 2 then n2 else n3
def lineV (n0 n1 n2 n3 : ByteArray) (x y : Int) : ByteArray := nmV n0 n1 n2 n3 x ++ ⟨#[32]⟩ ++ intS y ++ ⟨#[10]⟩
def txtV (n0 n1 n2 n3 : ByteArray) (l : List (Int × Int)) : ByteArray := l.foldl (fun s c => s ++ lineV n0 n1 n2 n3 c.1 c.2) ⟨#[]⟩
theorem txtV_step (n0 n1 n2 n3 : ByteArray) (L : List (Int × Int)) (k : Nat) (h : k < L.length) : txtV n0 n1 n2 n3 (L.take (k + 1)) = txtV n0 n1 n2 n3 (L.take k) ++ lineV n0 n1 n2 n3 L[k].1 L[k].2 := by
  rw [List.take_succ_eq_append_getElem h]
  unfold txtV
  rw [List.foldl_append]
  rfl
theorem nmV_size (n0 n1 n2 n3 : ByteArray) (x : Int) (hn : n0.size ≤ 7 ∧ n1.size ≤ 7 ∧ n2.size ≤ 7 ∧ n3.size ≤ 7) : (nmV n0 n1 n2 n3 x).size ≤ 7 := by
  unfold nmV
  split
  · exact hn.1
  · split
    · exact hn.2.1
    · split
      · exact hn.2.2.1
      · exact hn.2.2.2
theorem lineV_size (n0 n1 n2 n3 : ByteArray) (x y : Int) (hn : n0.size ≤ 7 ∧ n1.size ≤ 7 ∧ n2.size ≤ 7 ∧ n3.size ≤ 7) (hy : -1000 ≤ y ∧ y ≤ 1000) : (lineV n0 n1 n2 n3 x y).size ≤ 30 := by
  have := nmV_size n0 n1 n2 n3 x hn
  have h2 := intS_size y (by omega)
  have e1 : (⟨#[32]⟩ : ByteArray).size = 1 := rfl
  have e2 : (⟨#[10]⟩ : ByteArray).size = 1 := rfl
  unfold lineV
  simp only [ByteArray.size_append]
  omega
theorem txtV_size (n0 n1 n2 n3 : ByteArray) (l : List (Int × Int)) (hn : n0.size ≤ 7 ∧ n1.size ≤ 7 ∧ n2.size ≤ 7 ∧ n3.size ≤ 7) (hy : ∀ c ∈ l, -1000 ≤ c.2 ∧ c.2 ≤ 1000) : (txtV n0 n1 n2 n3 l).size ≤ 30 * l.length := by
  have H : ∀ (l : List (Int × Int)) (s : ByteArray), (∀ c ∈ l, -1000 ≤ c.2 ∧ c.2 ≤ 1000) → (l.foldl (fun s c => s ++ lineV n0 n1 n2 n3 c.1 c.2) s).size ≤ s.size + 30 * l.length := by
    intro l
    induction l with
    | nil => intro s _; simp
    | cons c r ih =>
      intro s h
      have h1 := ih (s ++ lineV n0 n1 n2 n3 c.1 c.2) (fun d hd => h d (by simp [hd]))
      have h2 := lineV_size n0 n1 n2 n3 c.1 c.2 hn (h c (by simp))
      simp only [List.foldl_cons, List.length_cons]
      simp only [ByteArray.size_append] at h1
      omega
  have := H l ⟨#[]⟩ hy
  have e : (⟨#[]⟩ : ByteArray).size = 0 := rfl
  unfold txtV
  omega
set_option maxHeartbeats 1000000 in
set_option maxRecDepth 100000 in
theorem c_stepNames (w : World) : Calls Tryz.prog 39 #[] w (NamesPost ⟨#[117, 112]⟩ ⟨#[100, 111, 119, 110]⟩ ⟨#[116, 119, 105, 115, 116]⟩ ⟨#[117, 110, 116, 119, 105, 115, 116]⟩ w) := by
  go_enter Tryz.func39, Tryz.ntmps39
  go_wp2
  go_returns
  exact ⟨w.heap.size, Nat.le_refl _, rfl, by (repeat' (first | (with_reducible exact Below.refl _ _) | (with_reducible refine below_step (by assumption) ?_ ?_) | (with_reducible refine Below.alloc ?_ ?_ _) | (with_reducible refine Below.setCell ?_ ?_ _) | (with_reducible refine below_drewN ?_ _) | (with_reducible refine Below.drew ?_) | omega | (simp; omega) | (simp; done))), Blk.new _ _ _⟩
set_option maxHeartbeats 1000000 in
set_option maxRecDepth 100000 in
theorem c_tlNames (w : World) : Calls Tryz.prog 61 #[] w (NamesPost ⟨#[117, 112]⟩ ⟨#[100, 111, 119, 110]⟩ ⟨#[116, 119, 105, 115, 116]⟩ ⟨#[117, 110, 116, 119, 105, 115, 116]⟩ w) := by
  go_enter Tryz.func61, Tryz.ntmps61
  go_wp2
  go_returns
  exact ⟨w.heap.size, Nat.le_refl _, rfl, by (repeat' (first | (with_reducible exact Below.refl _ _) | (with_reducible refine below_step (by assumption) ?_ ?_) | (with_reducible refine Below.alloc ?_ ?_ _) | (with_reducible refine Below.setCell ?_ ?_ _) | (with_reducible refine below_drewN ?_ _) | (with_reducible refine Below.drew ?_) | omega | (simp; omega) | (simp; done))), Blk.new _ _ _⟩
set_option maxHeartbeats 2000000 in
set_option maxRecDepth 100000 in
theorem c_logText (base : Nat) (v : Value) (L : List (Int × Int)) (hL : L.length ≤ 1000) (hx : ∀ k (hk : k < L.length), (0 ≤ L[k].1 ∧ L[k].1 ≤ 3) ∧ (-1000 ≤ L[k].2 ∧ L[k].2 ≤ 1000)) (n0 n1 n2 n3 : ByteArray) (hn : n0.size ≤ 7 ∧ n1.size ≤ 7 ∧ n2.size ≤ 7 ∧ n3.size ≤ 7)
    (HN : Hid (∀ w : World, Calls Tryz.prog 39 #[] w (NamesPost n0 n1 n2 n3 w)))
    (HT : Hid (∀ (y : Int) (w : World), -1000 ≤ y ∧ y ≤ 1000 → TabI w → Calls Tryz.prog 65 #[.int .i64 y] w fun e w' => e = .returned (.string (intS y)) ∧ Below w.heap.size w w'))
    (w : World) (ht : TabI w) (hown : OwnsS w base v L) :
    Calls Tryz.prog 29 #[v] w fun e w' => e = .returned (.string (txtV n0 n1 n2 n3 L)) ∧ Below w.heap.size w w' := by
  obtain ⟨a, cap, rfl, hform⟩ := OwnsP.form hown
  have HF := Lib.hid hform
  have HX := Lib.hid hx
  have HW := Lib.hid ht
  have HS := Lib.hid hn
  clear hform hown hx ht hn
  go_enter Tryz.func29, Tryz.ntmps29
  go_wp2
  go_loopw [8, 3] (fun i s wr => ∃ k : Nat, k ≤ L.length ∧ i = .int .i64 k ∧ s = .string (txtV n0 n1 n2 n3 (L.take k)) ∧ Below w.heap.size w wr) (fun i _ _ => L.length - (intOf i).toNat)
  case atStart => exact ⟨0, Nat.zero_le _, rfl, rfl, Below.refl _ _⟩
  case round =>
    obtain ⟨k, hk, rfl, rfl, hb⟩ := hrel
    have hsz := hb.size
    by_cases hlt : k < L.length
    · obtain ⟨g, rfl, q1, q2, _, hg, _⟩ := HF.out k hlt
      have d1 := (hb.cell (p := ⟨g, k * 2, none⟩) hg).trans q1
      have d2 := (hb.cell (p := ⟨g, k * 2 + 1, none⟩) hg).trans q2
      have hxy := HX.out k hlt
      have HE := Lib.hid (txtV_step n0 n1 n2 n3 L k hlt)
      have hz := txtV_size n0 n1 n2 n3 (L.take k) HS.out (fun c hc => by
        obtain ⟨j, hj, rfl⟩ := List.getElem_of_mem (List.mem_of_mem_take hc)
        exact (HX.out j hj).2)
      rw [List.length_take, Nat.min_eq_left hk] at hz
      clear q1 q2
      generalize L[k] = c at d1 d2 hxy HE
      obtain ⟨x, y⟩ := c
      simp only at d1 d2 hxy
      generalize txtV n0 n1 n2 n3 (L.take k) = out at HE hz ⊢
      go_wp2
      have kV := Blk.new wr #[.int .i64 x, .int .i64 y] 44
      have hb2 : Below w.heap.size w (wr.alloc (.cells #[.int .i64 x, .int .i64 y] 44)) := by (repeat' (first | (with_reducible exact Below.refl _ _) | (with_reducible refine below_step (by assumption) ?_ ?_) | (with_reducible refine Below.alloc ?_ ?_ _) | (with_reducible refine Below.setCell ?_ ?_ _) | (with_reducible refine below_drewN ?_ _) | (with_reducible refine Below.drew ?_) | omega | (simp; omega) | (simp; done)))
      generalize wr.alloc _ = W at *
      generalize wr.heap.size = r5 at *
      have HTy := Lib.hid (fun w1 h => HT.out y w1 hxy.2 h)
      have hY := intS_size y (by omega)
      have hl0 : lineV n0 n1 n2 n3 x y = nmV n0 n1 n2 n3 x ++ ⟨#[32]⟩ ++ intS y ++ ⟨#[10]⟩ := rfl
      have HL := Lib.hid hl0
      clear hl0
      have HTW := Lib.hid (HW.out.below hb2)
      generalize lineV n0 n1 n2 n3 x y = line at *
      generalize intS y = Y at *
      have e1 : (⟨#[32]⟩ : ByteArray).size = 1 := rfl
      have e2 : (⟨#[10]⟩ : ByteArray).size = 1 := rfl
      have hs4 := HS.out
      clear d1 d2 hb
      have hx4 : x = 0 ∨ x = 1 ∨ x = 2 ∨ x = 3 := by omega
      rcases hx4 with rfl | rfl | rfl | rfl
      · have f1 : (n0 ++ ⟨#[32]⟩ : ByteArray).size = n0.size + 1 := by rw [ByteArray.size_append]; rfl
        have f2 : (n0 ++ ⟨#[32]⟩ ++ Y : ByteArray).size = n0.size + 1 + Y.size := by rw [ByteArray.size_append, f1]
        have f3 : (n0 ++ ⟨#[32]⟩ ++ Y ++ ⟨#[10]⟩ : ByteArray).size = n0.size + 1 + Y.size + 1 := by rw [ByteArray.size_append, f2]; rfl
        have HA0 := fun w => run_string_add_sum (P := Tryz.prog) w n0 ⟨#[32]⟩ (by omega)
        have HA1 := fun w => run_string_add_sum (P := Tryz.prog) w (n0 ++ ⟨#[32]⟩) Y (by omega)
        have HA2 := fun w => run_string_add_sum (P := Tryz.prog) w (n0 ++ ⟨#[32]⟩ ++ Y) ⟨#[10]⟩ (by omega)
        have HA3 := fun w => run_string_add_sum (P := Tryz.prog) w out (n0 ++ ⟨#[32]⟩ ++ Y ++ ⟨#[10]⟩) (by omega)
        have hl1 : out ++ (n0 ++ ⟨#[32]⟩ ++ Y ++ ⟨#[10]⟩) = out ++ line := by have h := HL.out; rw [show nmV n0 n1 n2 n3 0 = n0 from rfl] at h; rw [h]
        have HL' := Lib.hid hl1
        clear hl1
        clear f1 f2 f3 hs4 e1 e2
        have kV0 : (W).cell? ⟨r5, 0, none⟩ = some (.int .i64 0) := kV.cell 0; have kV1 : (W).cell? ⟨r5, 1, none⟩ = some (.int .i64 y) := kV.cell 1; have kVl : r5 < (W).heap.size := kV.lt
        refine wp_region_cls [] (fun _ => false) (fun _ => True) (fun _ => True) (by kernel_rfl) trivial ?_
        apply wpAnyF_hd ⟨W, Over.refl _ _, trivial⟩ [true, false, true, true, false, false, false, true, true] 9 (Closed.true) (fun _ _ => trivial) (by kernel_rfl) (by kernel_rfl) (by kernel_rfl) (by kernel_rfl) (by simp)
        · intro E hE hEN hEn; (repeat (first | (refine wpHL_take ?_; go_big_quiet_step (fail); refine wpQuiet_nil ?_) | refine wpHL_skip ?_)); exact wpHL_end rfl
        refine wpAnyF_ready [1] 8 (by kernel_rfl) (by kernel_rfl) (by simp) (AllF.cons ?_ AllF.nil)
        refine stepC_calle (some 13) (fun v w' => ∃ r, W.heap.size ≤ r ∧ v = .slice (some ⟨r, 0, none⟩) 4 4 ∧ Blk r #[.string n0, .string n1, .string n2, .string n3] 9 w') (by rfl) (by rfl) (by rfl) (fun _ => by go_simp) (fun v w1 w2 ⟨r, i1, i2, i3⟩ hb => ⟨r, i1, i2, Blk.closed _ _ _ _ _ i3 hb⟩) (fun w1 hO _ => (HN.out w1).mono fun _ w2 ⟨r, hr, he, hb, hk⟩ => ⟨_, he, Over.of_below hb, r, Nat.le_trans hO.size hr, rfl, hk⟩) (fun v hne => ?_)
        obtain ⟨w9, hO9, r, hr, rfl, hk9⟩ := hne
        simp only [Act.put, List.setIfInBounds_toArray, List.set_cons_succ, List.set_cons_zero]
        refine wpAnyF_weaken (D2 := Blk r #[.string n0, .string n1, .string n2, .string n3] 9) (fun w' ⟨r', _, i2, i3⟩ => by cases i2; exact i3) ?_
        refine wpAnyF_N (N' := Blk r #[.string n0, .string n1, .string n2, .string n3] 9) ?_
        apply wpAnyF_hd ⟨w9, hO9, hk9⟩ [false, false, false, false, true, true, true] 5 (Blk.closed _ _ _) (fun _ h => h) (by kernel_rfl) (by kernel_rfl) (by kernel_rfl) (by kernel_rfl) (by simp)
        · intro E hE hEN hEn; have hk : ∀ c : Cls [] W E, c.wd.cell? ⟨r, 0, none⟩ = some (.string n0) := fun c => (hEN _ c.more).cell 0; (repeat (first | (refine wpHL_take ?_; go_big_quiet_step (fail); refine wpQuiet_nil ?_) | refine wpHL_skip ?_)); exact wpHL_end rfl
        refine wpAnyF_ready [9] 4 (by kernel_rfl) (by kernel_rfl) (by simp) (AllF.cons ?_ AllF.nil)
        refine stepN_call (v := .string Y) (some 21) (Blk r #[.string n0, .string n1, .string n2, .string n3] 9) (by rfl) (by rfl) (by rfl) (fun _ => by go_simp) (Blk.closed _ _ _) (fun _ h => h) (fun w1 hO hd => (HTy.out w1 (HTW.out.below hO.below)).mono fun _ _ ⟨he, hb⟩ => ⟨he, Over.of_below hb, Blk.closed _ _ _ _ _ hd hb⟩) (fun hne => ?_)
        simp only [Act.put, List.setIfInBounds_toArray, List.set_cons_succ, List.set_cons_zero]
        apply wpAnyF_hd hne [false, false, false, false, false, false, false, false, false, false, true, true, true, true] 0 (Blk.closed _ _ _) (fun _ h => h) (by kernel_rfl) (by kernel_rfl) (by kernel_rfl) (by kernel_rfl) (by simp)
        · intro E hE hEN hEn; (repeat (first | (refine wpHL_take ?_; go_big_quiet_step (fail); refine wpQuiet_nil ?_) | refine wpHL_skip ?_)); exact wpHL_end rfl
        refine wpAnyF_done (by kernel_rfl) (fun Wz hOz hDz => NoPanic.normal ?_) _
        try dsimp only
        have hb3 : Below w.heap.size w Wz := below_step hOz.below hb2.size hb2
        clear HA0 HA1 HA2 HA3 hk9 hDz
        go_wp2
        go_roundw
        case rel => exact ⟨k + 1, by omega, by go_num, by rw [HL'.out, HE.out], hb3⟩
        case measure => simp [intOf]; omega
      · have f1 : (n1 ++ ⟨#[32]⟩ : ByteArray).size = n1.size + 1 := by rw [ByteArray.size_append]; rfl
        have f2 : (n1 ++ ⟨#[32]⟩ ++ Y : ByteArray).size = n1.size + 1 + Y.size := by rw [ByteArray.size_append, f1]
        have f3 : (n1 ++ ⟨#[32]⟩ ++ Y ++ ⟨#[10]⟩ : ByteArray).size = n1.size + 1 + Y.size + 1 := by rw [ByteArray.size_append, f2]; rfl
        have HA0 := fun w => run_string_add_sum (P := Tryz.prog) w n1 ⟨#[32]⟩ (by omega)
        have HA1 := fun w => run_string_add_sum (P := Tryz.prog) w (n1 ++ ⟨#[32]⟩) Y (by omega)
        have HA2 := fun w => run_string_add_sum (P := Tryz.prog) w (n1 ++ ⟨#[32]⟩ ++ Y) ⟨#[10]⟩ (by omega)
        have HA3 := fun w => run_string_add_sum (P := Tryz.prog) w out (n1 ++ ⟨#[32]⟩ ++ Y ++ ⟨#[10]⟩) (by omega)
        have hl1 : out ++ (n1 ++ ⟨#[32]⟩ ++ Y ++ ⟨#[10]⟩) = out ++ line := by have h := HL.out; rw [show nmV n0 n1 n2 n3 1 = n1 from rfl] at h; rw [h]
        have HL' := Lib.hid hl1
        clear hl1
        clear f1 f2 f3 hs4 e1 e2
        have kV0 : (W).cell? ⟨r5, 0, none⟩ = some (.int .i64 1) := kV.cell 0; have kV1 : (W).cell? ⟨r5, 1, none⟩ = some (.int .i64 y) := kV.cell 1; have kVl : r5 < (W).heap.size := kV.lt
        refine wp_region_cls [] (fun _ => false) (fun _ => True) (fun _ => True) (by kernel_rfl) trivial ?_
        apply wpAnyF_hd ⟨W, Over.refl _ _, trivial⟩ [true, false, true, true, false, false, false, true, true] 9 (Closed.true) (fun _ _ => trivial) (by kernel_rfl) (by kernel_rfl) (by kernel_rfl) (by kernel_rfl) (by simp)
        · intro E hE hEN hEn; (repeat (first | (refine wpHL_take ?_; go_big_quiet_step (fail); refine wpQuiet_nil ?_) | refine wpHL_skip ?_)); exact wpHL_end rfl
        refine wpAnyF_ready [1] 8 (by kernel_rfl) (by kernel_rfl) (by simp) (AllF.cons ?_ AllF.nil)
        refine stepC_calle (some 13) (fun v w' => ∃ r, W.heap.size ≤ r ∧ v = .slice (some ⟨r, 0, none⟩) 4 4 ∧ Blk r #[.string n0, .string n1, .string n2, .string n3] 9 w') (by rfl) (by rfl) (by rfl) (fun _ => by go_simp) (fun v w1 w2 ⟨r, i1, i2, i3⟩ hb => ⟨r, i1, i2, Blk.closed _ _ _ _ _ i3 hb⟩) (fun w1 hO _ => (HN.out w1).mono fun _ w2 ⟨r, hr, he, hb, hk⟩ => ⟨_, he, Over.of_below hb, r, Nat.le_trans hO.size hr, rfl, hk⟩) (fun v hne => ?_)
        obtain ⟨w9, hO9, r, hr, rfl, hk9⟩ := hne
        simp only [Act.put, List.setIfInBounds_toArray, List.set_cons_succ, List.set_cons_zero]
        refine wpAnyF_weaken (D2 := Blk r #[.string n0, .string n1, .string n2, .string n3] 9) (fun w' ⟨r', _, i2, i3⟩ => by cases i2; exact i3) ?_
        refine wpAnyF_N (N' := Blk r #[.string n0, .string n1, .string n2, .string n3] 9) ?_
        apply wpAnyF_hd ⟨w9, hO9, hk9⟩ [false, false, false, false, true, true, true] 5 (Blk.closed _ _ _) (fun _ h => h) (by kernel_rfl) (by kernel_rfl) (by kernel_rfl) (by kernel_rfl) (by simp)
        · intro E hE hEN hEn; have hk : ∀ c : Cls [] W E, c.wd.cell? ⟨r, 1, none⟩ = some (.string n1) := fun c => (hEN _ c.more).cell 1; (repeat (first | (refine wpHL_take ?_; go_big_quiet_step (fail); refine wpQuiet_nil ?_) | refine wpHL_skip ?_)); exact wpHL_end rfl
        refine wpAnyF_ready [9] 4 (by kernel_rfl) (by kernel_rfl) (by simp) (AllF.cons ?_ AllF.nil)
        refine stepN_call (v := .string Y) (some 21) (Blk r #[.string n0, .string n1, .string n2, .string n3] 9) (by rfl) (by rfl) (by rfl) (fun _ => by go_simp) (Blk.closed _ _ _) (fun _ h => h) (fun w1 hO hd => (HTy.out w1 (HTW.out.below hO.below)).mono fun _ _ ⟨he, hb⟩ => ⟨he, Over.of_below hb, Blk.closed _ _ _ _ _ hd hb⟩) (fun hne => ?_)
        simp only [Act.put, List.setIfInBounds_toArray, List.set_cons_succ, List.set_cons_zero]
        apply wpAnyF_hd hne [false, false, false, false, false, false, false, false, false, false, true, true, true, true] 0 (Blk.closed _ _ _) (fun _ h => h) (by kernel_rfl) (by kernel_rfl) (by kernel_rfl) (by kernel_rfl) (by simp)
        · intro E hE hEN hEn; (repeat (first | (refine wpHL_take ?_; go_big_quiet_step (fail); refine wpQuiet_nil ?_) | refine wpHL_skip ?_)); exact wpHL_end rfl
        refine wpAnyF_done (by kernel_rfl) (fun Wz hOz hDz => NoPanic.normal ?_) _
        try dsimp only
        have hb3 : Below w.heap.size w Wz := below_step hOz.below hb2.size hb2
        clear HA0 HA1 HA2 HA3 hk9 hDz
        go_wp2
        go_roundw
        case rel => exact ⟨k + 1, by omega, by go_num, by rw [HL'.out, HE.out], hb3⟩
        case measure => simp [intOf]; omega
      · have f1 : (n2 ++ ⟨#[32]⟩ : ByteArray).size = n2.size + 1 := by rw [ByteArray.size_append]; rfl
        have f2 : (n2 ++ ⟨#[32]⟩ ++ Y : ByteArray).size = n2.size + 1 + Y.size := by rw [ByteArray.size_append, f1]
        have f3 : (n2 ++ ⟨#[32]⟩ ++ Y ++ ⟨#[10]⟩ : ByteArray).size = n2.size + 1 + Y.size + 1 := by rw [ByteArray.size_append, f2]; rfl
        have HA0 := fun w => run_string_add_sum (P := Tryz.prog) w n2 ⟨#[32]⟩ (by omega)
        have HA1 := fun w => run_string_add_sum (P := Tryz.prog) w (n2 ++ ⟨#[32]⟩) Y (by omega)
        have HA2 := fun w => run_string_add_sum (P := Tryz.prog) w (n2 ++ ⟨#[32]⟩ ++ Y) ⟨#[10]⟩ (by omega)
        have HA3 := fun w => run_string_add_sum (P := Tryz.prog) w out (n2 ++ ⟨#[32]⟩ ++ Y ++ ⟨#[10]⟩) (by omega)
        have hl1 : out ++ (n2 ++ ⟨#[32]⟩ ++ Y ++ ⟨#[10]⟩) = out ++ line := by have h := HL.out; rw [show nmV n0 n1 n2 n3 2 = n2 from rfl] at h; rw [h]
        have HL' := Lib.hid hl1
        clear hl1
        clear f1 f2 f3 hs4 e1 e2
        have kV0 : (W).cell? ⟨r5, 0, none⟩ = some (.int .i64 2) := kV.cell 0; have kV1 : (W).cell? ⟨r5, 1, none⟩ = some (.int .i64 y) := kV.cell 1; have kVl : r5 < (W).heap.size := kV.lt
        refine wp_region_cls [] (fun _ => false) (fun _ => True) (fun _ => True) (by kernel_rfl) trivial ?_
        apply wpAnyF_hd ⟨W, Over.refl _ _, trivial⟩ [true, false, true, true, false, false, false, true, true] 9 (Closed.true) (fun _ _ => trivial) (by kernel_rfl) (by kernel_rfl) (by kernel_rfl) (by kernel_rfl) (by simp)
        · intro E hE hEN hEn; (repeat (first | (refine wpHL_take ?_; go_big_quiet_step (fail); refine wpQuiet_nil ?_) | refine wpHL_skip ?_)); exact wpHL_end rfl
        refine wpAnyF_ready [1] 8 (by kernel_rfl) (by kernel_rfl) (by simp) (AllF.cons ?_ AllF.nil)
        refine stepC_calle (some 13) (fun v w' => ∃ r, W.heap.size ≤ r ∧ v = .slice (some ⟨r, 0, none⟩) 4 4 ∧ Blk r #[.string n0, .string n1, .string n2, .string n3] 9 w') (by rfl) (by rfl) (by rfl) (fun _ => by go_simp) (fun v w1 w2 ⟨r, i1, i2, i3⟩ hb => ⟨r, i1, i2, Blk.closed _ _ _ _ _ i3 hb⟩) (fun w1 hO _ => (HN.out w1).mono fun _ w2 ⟨r, hr, he, hb, hk⟩ => ⟨_, he, Over.of_below hb, r, Nat.le_trans hO.size hr, rfl, hk⟩) (fun v hne => ?_)
        obtain ⟨w9, hO9, r, hr, rfl, hk9⟩ := hne
        simp only [Act.put, List.setIfInBounds_toArray, List.set_cons_succ, List.set_cons_zero]
        refine wpAnyF_weaken (D2 := Blk r #[.string n0, .string n1, .string n2, .string n3] 9) (fun w' ⟨r', _, i2, i3⟩ => by cases i2; exact i3) ?_
        refine wpAnyF_N (N' := Blk r #[.string n0, .string n1, .string n2, .string n3] 9) ?_
        apply wpAnyF_hd ⟨w9, hO9, hk9⟩ [false, false, false, false, true, true, true] 5 (Blk.closed _ _ _) (fun _ h => h) (by kernel_rfl) (by kernel_rfl) (by kernel_rfl) (by kernel_rfl) (by simp)
        · intro E hE hEN hEn; have hk : ∀ c : Cls [] W E, c.wd.cell? ⟨r, 2, none⟩ = some (.string n2) := fun c => (hEN _ c.more).cell 2; (repeat (first | (refine wpHL_take ?_; go_big_quiet_step (fail); refine wpQuiet_nil ?_) | refine wpHL_skip ?_)); exact wpHL_end rfl
        refine wpAnyF_ready [9] 4 (by kernel_rfl) (by kernel_rfl) (by simp) (AllF.cons ?_ AllF.nil)
        refine stepN_call (v := .string Y) (some 21) (Blk r #[.string n0, .string n1, .string n2, .string n3] 9) (by rfl) (by rfl) (by rfl) (fun _ => by go_simp) (Blk.closed _ _ _) (fun _ h => h) (fun w1 hO hd => (HTy.out w1 (HTW.out.below hO.below)).mono fun _ _ ⟨he, hb⟩ => ⟨he, Over.of_below hb, Blk.closed _ _ _ _ _ hd hb⟩) (fun hne => ?_)
        simp only [Act.put, List.setIfInBounds_toArray, List.set_cons_succ, List.set_cons_zero]
        apply wpAnyF_hd hne [false, false, false, false, false, false, false, false, false, false, true, true, true, true] 0 (Blk.closed _ _ _) (fun _ h => h) (by kernel_rfl) (by kernel_rfl) (by kernel_rfl) (by kernel_rfl) (by simp)
        · intro E hE hEN hEn; (repeat (first | (refine wpHL_take ?_; go_big_quiet_step (fail); refine wpQuiet_nil ?_) | refine wpHL_skip ?_)); exact wpHL_end rfl
        refine wpAnyF_done (by kernel_rfl) (fun Wz hOz hDz => NoPanic.normal ?_) _
        try dsimp only
        have hb3 : Below w.heap.size w Wz := below_step hOz.below hb2.size hb2
        clear HA0 HA1 HA2 HA3 hk9 hDz
        go_wp2
        go_roundw
        case rel => exact ⟨k + 1, by omega, by go_num, by rw [HL'.out, HE.out], hb3⟩
        case measure => simp [intOf]; omega
      · have f1 : (n3 ++ ⟨#[32]⟩ : ByteArray).size = n3.size + 1 := by rw [ByteArray.size_append]; rfl
        have f2 : (n3 ++ ⟨#[32]⟩ ++ Y : ByteArray).size = n3.size + 1 + Y.size := by rw [ByteArray.size_append, f1]
        have f3 : (n3 ++ ⟨#[32]⟩ ++ Y ++ ⟨#[10]⟩ : ByteArray).size = n3.size + 1 + Y.size + 1 := by rw [ByteArray.size_append, f2]; rfl
        have HA0 := fun w => run_string_add_sum (P := Tryz.prog) w n3 ⟨#[32]⟩ (by omega)
        have HA1 := fun w => run_string_add_sum (P := Tryz.prog) w (n3 ++ ⟨#[32]⟩) Y (by omega)
        have HA2 := fun w => run_string_add_sum (P := Tryz.prog) w (n3 ++ ⟨#[32]⟩ ++ Y) ⟨#[10]⟩ (by omega)
        have HA3 := fun w => run_string_add_sum (P := Tryz.prog) w out (n3 ++ ⟨#[32]⟩ ++ Y ++ ⟨#[10]⟩) (by omega)
        have hl1 : out ++ (n3 ++ ⟨#[32]⟩ ++ Y ++ ⟨#[10]⟩) = out ++ line := by have h := HL.out; rw [show nmV n0 n1 n2 n3 3 = n3 from rfl] at h; rw [h]
        have HL' := Lib.hid hl1
        clear hl1
        clear f1 f2 f3 hs4 e1 e2
        have kV0 : (W).cell? ⟨r5, 0, none⟩ = some (.int .i64 3) := kV.cell 0; have kV1 : (W).cell? ⟨r5, 1, none⟩ = some (.int .i64 y) := kV.cell 1; have kVl : r5 < (W).heap.size := kV.lt
        refine wp_region_cls [] (fun _ => false) (fun _ => True) (fun _ => True) (by kernel_rfl) trivial ?_
        apply wpAnyF_hd ⟨W, Over.refl _ _, trivial⟩ [true, false, true, true, false, false, false, true, true] 9 (Closed.true) (fun _ _ => trivial) (by kernel_rfl) (by kernel_rfl) (by kernel_rfl) (by kernel_rfl) (by simp)
        · intro E hE hEN hEn; (repeat (first | (refine wpHL_take ?_; go_big_quiet_step (fail); refine wpQuiet_nil ?_) | refine wpHL_skip ?_)); exact wpHL_end rfl
        refine wpAnyF_ready [1] 8 (by kernel_rfl) (by kernel_rfl) (by simp) (AllF.cons ?_ AllF.nil)
        refine stepC_calle (some 13) (fun v w' => ∃ r, W.heap.size ≤ r ∧ v = .slice (some ⟨r, 0, none⟩) 4 4 ∧ Blk r #[.string n0, .string n1, .string n2, .string n3] 9 w') (by rfl) (by rfl) (by rfl) (fun _ => by go_simp) (fun v w1 w2 ⟨r, i1, i2, i3⟩ hb => ⟨r, i1, i2, Blk.closed _ _ _ _ _ i3 hb⟩) (fun w1 hO _ => (HN.out w1).mono fun _ w2 ⟨r, hr, he, hb, hk⟩ => ⟨_, he, Over.of_below hb, r, Nat.le_trans hO.size hr, rfl, hk⟩) (fun v hne => ?_)
        obtain ⟨w9, hO9, r, hr, rfl, hk9⟩ := hne
        simp only [Act.put, List.setIfInBounds_toArray, List.set_cons_succ, List.set_cons_zero]
        refine wpAnyF_weaken (D2 := Blk r #[.string n0, .string n1, .string n2, .string n3] 9) (fun w' ⟨r', _, i2, i3⟩ => by cases i2; exact i3) ?_
        refine wpAnyF_N (N' := Blk r #[.string n0, .string n1, .string n2, .string n3] 9) ?_
        apply wpAnyF_hd ⟨w9, hO9, hk9⟩ [false, false, false, false, true, true, true] 5 (Blk.closed _ _ _) (fun _ h => h) (by kernel_rfl) (by kernel_rfl) (by kernel_rfl) (by kernel_rfl) (by simp)
        · intro E hE hEN hEn; have hk : ∀ c : Cls [] W E, c.wd.cell? ⟨r, 3, none⟩ = some (.string n3) := fun c => (hEN _ c.more).cell 3; (repeat (first | (refine wpHL_take ?_; go_big_quiet_step (fail); refine wpQuiet_nil ?_) | refine wpHL_skip ?_)); exact wpHL_end rfl
        refine wpAnyF_ready [9] 4 (by kernel_rfl) (by kernel_rfl) (by simp) (AllF.cons ?_ AllF.nil)
        refine stepN_call (v := .string Y) (some 21) (Blk r #[.string n0, .string n1, .string n2, .string n3] 9) (by rfl) (by rfl) (by rfl) (fun _ => by go_simp) (Blk.closed _ _ _) (fun _ h => h) (fun w1 hO hd => (HTy.out w1 (HTW.out.below hO.below)).mono fun _ _ ⟨he, hb⟩ => ⟨he, Over.of_below hb, Blk.closed _ _ _ _ _ hd hb⟩) (fun hne => ?_)
        simp only [Act.put, List.setIfInBounds_toArray, List.set_cons_succ, List.set_cons_zero]
        apply wpAnyF_hd hne [false, false, false, false, false, false, false, false, false, false, true, true, true, true] 0 (Blk.closed _ _ _) (fun _ h => h) (by kernel_rfl) (by kernel_rfl) (by kernel_rfl) (by kernel_rfl) (by simp)
        · intro E hE hEN hEn; (repeat (first | (refine wpHL_take ?_; go_big_quiet_step (fail); refine wpQuiet_nil ?_) | refine wpHL_skip ?_)); exact wpHL_end rfl
        refine wpAnyF_done (by kernel_rfl) (fun Wz hOz hDz => NoPanic.normal ?_) _
        try dsimp only
        have hb3 : Below w.heap.size w Wz := below_step hOz.below hb2.size hb2
        clear HA0 HA1 HA2 HA3 hk9 hDz
        go_wp2
        go_roundw
        case rel => exact ⟨k + 1, by omega, by go_num, by rw [HL'.out, HE.out], hb3⟩
        case measure => simp [intOf]; omega
    · obtain rfl : k = L.length := by omega
      rw [List.take_length]
      go_wp2
      go_ret
      exact ⟨rfl, hb⟩
set_option maxHeartbeats 2000000 in
set_option maxRecDepth 100000 in
theorem c_tlText (base : Nat) (v : Value) (L : List (Int × Int)) (hL : L.length ≤ 1000) (hx : ∀ k (hk : k < L.length), (0 ≤ L[k].1 ∧ L[k].1 ≤ 3) ∧ (-1000 ≤ L[k].2 ∧ L[k].2 ≤ 1000)) (n0 n1 n2 n3 : ByteArray) (hn : n0.size ≤ 7 ∧ n1.size ≤ 7 ∧ n2.size ≤ 7 ∧ n3.size ≤ 7)
    (HN : Hid (∀ w : World, Calls Tryz.prog 61 #[] w (NamesPost n0 n1 n2 n3 w)))
    (HT : Hid (∀ (y : Int) (w : World), -1000 ≤ y ∧ y ≤ 1000 → TabI w → Calls Tryz.prog 66 #[.int .i64 y] w fun e w' => e = .returned (.string (intS y)) ∧ Below w.heap.size w w'))
    (w : World) (ht : TabI w) (hown : OwnsS w base v L) :
    Calls Tryz.prog 31 #[v] w fun e w' => e = .returned (.string (txtV n0 n1 n2 n3 L)) ∧ Below w.heap.size w w' := by
  obtain ⟨a, cap, rfl, hform⟩ := OwnsP.form hown
  have HF := Lib.hid hform
  have HX := Lib.hid hx
  have HW := Lib.hid ht
  have HS := Lib.hid hn
  clear hform hown hx ht hn
  go_enter Tryz.func31, Tryz.ntmps31
  go_wp2
  go_loopw [8, 3] (fun i s wr => ∃ k : Nat, k ≤ L.length ∧ i = .int .i64 k ∧ s = .string (txtV n0 n1 n2 n3 (L.take k)) ∧ Below w.heap.size w wr) (fun i _ _ => L.length - (intOf i).toNat)
  case atStart => exact ⟨0, Nat.zero_le _, rfl, rfl, Below.refl _ _⟩
  case round =>
    obtain ⟨k, hk, rfl, rfl, hb⟩ := hrel
    have hsz := hb.size
    by_cases hlt : k < L.length
    · obtain ⟨g, rfl, q1, q2, _, hg, _⟩ := HF.out k hlt
      have d1 := (hb.cell (p := ⟨g, k * 2, none⟩) hg).trans q1
      have d2 := (hb.cell (p := ⟨g, k * 2 + 1, none⟩) hg).trans q2
      have hxy := HX.out k hlt
      have HE := Lib.hid (txtV_step n0 n1 n2 n3 L k hlt)
      have hz := txtV_size n0 n1 n2 n3 (L.take k) HS.out (fun c hc => by
        obtain ⟨j, hj, rfl⟩ := List.getElem_of_mem (List.mem_of_mem_take hc)
        exact (HX.out j hj).2)
      rw [List.length_take, Nat.min_eq_left hk] at hz
      clear q1 q2
      generalize L[k] = c at d1 d2 hxy HE
      obtain ⟨x, y⟩ := c
      simp only at d1 d2 hxy
      generalize txtV n0 n1 n2 n3 (L.take k) = out at HE hz ⊢
      go_wp2
      have kV := Blk.new wr #[.int .i64 x, .int .i64 y] 44
      have hb2 : Below w.heap.size w (wr.alloc (.cells #[.int .i64 x, .int .i64 y] 44)) := by (repeat' (first | (with_reducible exact Below.refl _ _) | (with_reducible refine below_step (by assumption) ?_ ?_) | (with_reducible refine Below.alloc ?_ ?_ _) | (with_reducible refine Below.setCell ?_ ?_ _) | (with_reducible refine below_drewN ?_ _) | (with_reducible refine Below.drew ?_) | omega | (simp; omega) | (simp; done)))
      generalize wr.alloc _ = W at *
      generalize wr.heap.size = r5 at *
      have HTy := Lib.hid (fun w1 h => HT.out y w1 hxy.2 h)
      have hY := intS_size y (by omega)
      have hl0 : lineV n0 n1 n2 n3 x y = nmV n0 n1 n2 n3 x ++ ⟨#[32]⟩ ++ intS y ++ ⟨#[10]⟩ := rfl
      have HL := Lib.hid hl0
      clear hl0
      have HTW := Lib.hid (HW.out.below hb2)
      generalize lineV n0 n1 n2 n3 x y = line at *
      generalize intS y = Y at *
      have e1 : (⟨#[32]⟩ : ByteArray).size = 1 := rfl
      have e2 : (⟨#[10]⟩ : ByteArray).size = 1 := rfl
      have hs4 := HS.out
      clear d1 d2 hb
      have hx4 : x = 0 ∨ x = 1 ∨ x = 2 ∨ x = 3 := by omega
      rcases hx4 with rfl | rfl | rfl | rfl
      · have f1 : (n0 ++ ⟨#[32]⟩ : ByteArray).size = n0.size + 1 := by rw [ByteArray.size_append]; rfl
        have f2 : (n0 ++ ⟨#[32]⟩ ++ Y : ByteArray).size = n0.size + 1 + Y.size := by rw [ByteArray.size_append, f1]
        have f3 : (n0 ++ ⟨#[32]⟩ ++ Y ++ ⟨#[10]⟩ : ByteArray).size = n0.size + 1 + Y.size + 1 := by rw [ByteArray.size_append, f2]; rfl
        have HA0 := fun w => run_string_add_sum (P := Tryz.prog) w n0 ⟨#[32]⟩ (by omega)
        have HA1 := fun w => run_string_add_sum (P := Tryz.prog) w (n0 ++ ⟨#[32]⟩) Y (by omega)
        have HA2 := fun w => run_string_add_sum (P := Tryz.prog) w (n0 ++ ⟨#[32]⟩ ++ Y) ⟨#[10]⟩ (by omega)
        have HA3 := fun w => run_string_add_sum (P := Tryz.prog) w out (n0 ++ ⟨#[32]⟩ ++ Y ++ ⟨#[10]⟩) (by omega)
        have hl1 : out ++ (n0 ++ ⟨#[32]⟩ ++ Y ++ ⟨#[10]⟩) = out ++ line := by have h := HL.out; rw [show nmV n0 n1 n2 n3 0 = n0 from rfl] at h; rw [h]
        have HL' := Lib.hid hl1
        clear hl1
        clear f1 f2 f3 hs4 e1 e2
        have kV0 : (W).cell? ⟨r5, 0, none⟩ = some (.int .i64 0) := kV.cell 0; have kV1 : (W).cell? ⟨r5, 1, none⟩ = some (.int .i64 y) := kV.cell 1; have kVl : r5 < (W).heap.size := kV.lt
        refine wp_region_cls [] (fun _ => false) (fun _ => True) (fun _ => True) (by kernel_rfl) trivial ?_
        apply wpAnyF_hd ⟨W, Over.refl _ _, trivial⟩ [true, false, true, true, false, false, false, true, true] 9 (Closed.true) (fun _ _ => trivial) (by kernel_rfl) (by kernel_rfl) (by kernel_rfl) (by kernel_rfl) (by simp)
        · intro E hE hEN hEn; (repeat (first | (refine wpHL_take ?_; go_big_quiet_step (fail); refine wpQuiet_nil ?_) | refine wpHL_skip ?_)); exact wpHL_end rfl
        refine wpAnyF_ready [1] 8 (by kernel_rfl) (by kernel_rfl) (by simp) (AllF.cons ?_ AllF.nil)
        refine stepC_calle (some 13) (fun v w' => ∃ r, W.heap.size ≤ r ∧ v = .slice (some ⟨r, 0, none⟩) 4 4 ∧ Blk r #[.string n0, .string n1, .string n2, .string n3] 9 w') (by rfl) (by rfl) (by rfl) (fun _ => by go_simp) (fun v w1 w2 ⟨r, i1, i2, i3⟩ hb => ⟨r, i1, i2, Blk.closed _ _ _ _ _ i3 hb⟩) (fun w1 hO _ => (HN.out w1).mono fun _ w2 ⟨r, hr, he, hb, hk⟩ => ⟨_, he, Over.of_below hb, r, Nat.le_trans hO.size hr, rfl, hk⟩) (fun v hne => ?_)
        obtain ⟨w9, hO9, r, hr, rfl, hk9⟩ := hne
        simp only [Act.put, List.setIfInBounds_toArray, List.set_cons_succ, List.set_cons_zero]
        refine wpAnyF_weaken (D2 := Blk r #[.string n0, .string n1, .string n2, .string n3] 9) (fun w' ⟨r', _, i2, i3⟩ => by cases i2; exact i3) ?_
        refine wpAnyF_N (N' := Blk r #[.string n0, .string n1, .string n2, .string n3] 9) ?_
        apply wpAnyF_hd ⟨w9, hO9, hk9⟩ [false, false, false, false, true, true, true] 5 (Blk.closed _ _ _) (fun _ h => h) (by kernel_rfl) (by kernel_rfl) (by kernel_rfl) (by kernel_rfl) (by simp)
        · intro E hE hEN hEn; have hk : ∀ c : Cls [] W E, c.wd.cell? ⟨r, 0, none⟩ = some (.string n0) := fun c => (hEN _ c.more).cell 0; (repeat (first | (refine wpHL_take ?_; go_big_quiet_step (fail); refine wpQuiet_nil ?_) | refine wpHL_skip ?_)); exact wpHL_end rfl
        refine wpAnyF_ready [9] 4 (by kernel_rfl) (by kernel_rfl) (by simp) (AllF.cons ?_ AllF.nil)
        refine stepN_call (v := .string Y) (some 21) (Blk r #[.string n0, .string n1, .string n2, .string n3] 9) (by rfl) (by rfl) (by rfl) (fun _ => by go_simp) (Blk.closed _ _ _) (fun _ h => h) (fun w1 hO hd => (HTy.out w1 (HTW.out.below hO.below)).mono fun _ _ ⟨he, hb⟩ => ⟨he, Over.of_below hb, Blk.closed _ _ _ _ _ hd hb⟩) (fun hne => ?_)
        simp only [Act.put, List.setIfInBounds_toArray, List.set_cons_succ, List.set_cons_zero]
        apply wpAnyF_hd hne [false, false, false, false, false, false, false, false, false, false, true, true, true, true] 0 (Blk.closed _ _ _) (fun _ h => h) (by kernel_rfl) (by kernel_rfl) (by kernel_rfl) (by kernel_rfl) (by simp)
        · intro E hE hEN hEn; (repeat (first | (refine wpHL_take ?_; go_big_quiet_step (fail); refine wpQuiet_nil ?_) | refine wpHL_skip ?_)); exact wpHL_end rfl
        refine wpAnyF_done (by kernel_rfl) (fun Wz hOz hDz => NoPanic.normal ?_) _
        try dsimp only
        have hb3 : Below w.heap.size w Wz := below_step hOz.below hb2.size hb2
        clear HA0 HA1 HA2 HA3 hk9 hDz
        go_wp2
        go_roundw
        case rel => exact ⟨k + 1, by omega, by go_num, by rw [HL'.out, HE.out], hb3⟩
        case measure => simp [intOf]; omega
      · have f1 : (n1 ++ ⟨#[32]⟩ : ByteArray).size = n1.size + 1 := by rw [ByteArray.size_append]; rfl
        have f2 : (n1 ++ ⟨#[32]⟩ ++ Y : ByteArray).size = n1.size + 1 + Y.size := by rw [ByteArray.size_append, f1]
        have f3 : (n1 ++ ⟨#[32]⟩ ++ Y ++ ⟨#[10]⟩ : ByteArray).size = n1.size + 1 + Y.size + 1 := by rw [ByteArray.size_append, f2]; rfl
        have HA0 := fun w => run_string_add_sum (P := Tryz.prog) w n1 ⟨#[32]⟩ (by omega)
        have HA1 := fun w => run_string_add_sum (P := Tryz.prog) w (n1 ++ ⟨#[32]⟩) Y (by omega)
        have HA2 := fun w => run_string_add_sum (P := Tryz.prog) w (n1 ++ ⟨#[32]⟩ ++ Y) ⟨#[10]⟩ (by omega)
        have HA3 := fun w => run_string_add_sum (P := Tryz.prog) w out (n1 ++ ⟨#[32]⟩ ++ Y ++ ⟨#[10]⟩) (by omega)
        have hl1 : out ++ (n1 ++ ⟨#[32]⟩ ++ Y ++ ⟨#[10]⟩) = out ++ line := by have h := HL.out; rw [show nmV n0 n1 n2 n3 1 = n1 from rfl] at h; rw [h]
        have HL' := Lib.hid hl1
        clear hl1
        clear f1 f2 f3 hs4 e1 e2
        have kV0 : (W).cell? ⟨r5, 0, none⟩ = some (.int .i64 1) := kV.cell 0; have kV1 : (W).cell? ⟨r5, 1, none⟩ = some (.int .i64 y) := kV.cell 1; have kVl : r5 < (W).heap.size := kV.lt
        refine wp_region_cls [] (fun _ => false) (fun _ => True) (fun _ => True) (by kernel_rfl) trivial ?_
        apply wpAnyF_hd ⟨W, Over.refl _ _, trivial⟩ [true, false, true, true, false, false, false, true, true] 9 (Closed.true) (fun _ _ => trivial) (by kernel_rfl) (by kernel_rfl) (by kernel_rfl) (by kernel_rfl) (by simp)
        · intro E hE hEN hEn; (repeat (first | (refine wpHL_take ?_; go_big_quiet_step (fail); refine wpQuiet_nil ?_) | refine wpHL_skip ?_)); exact wpHL_end rfl
        refine wpAnyF_ready [1] 8 (by kernel_rfl) (by kernel_rfl) (by simp) (AllF.cons ?_ AllF.nil)
        refine stepC_calle (some 13) (fun v w' => ∃ r, W.heap.size ≤ r ∧ v = .slice (some ⟨r, 0, none⟩) 4 4 ∧ Blk r #[.string n0, .string n1, .string n2, .string n3] 9 w') (by rfl) (by rfl) (by rfl) (fun _ => by go_simp) (fun v w1 w2 ⟨r, i1, i2, i3⟩ hb => ⟨r, i1, i2, Blk.closed _ _ _ _ _ i3 hb⟩) (fun w1 hO _ => (HN.out w1).mono fun _ w2 ⟨r, hr, he, hb, hk⟩ => ⟨_, he, Over.of_below hb, r, Nat.le_trans hO.size hr, rfl, hk⟩) (fun v hne => ?_)
        obtain ⟨w9, hO9, r, hr, rfl, hk9⟩ := hne
        simp only [Act.put, List.setIfInBounds_toArray, List.set_cons_succ, List.set_cons_zero]
        refine wpAnyF_weaken (D2 := Blk r #[.string n0, .string n1, .string n2, .string n3] 9) (fun w' ⟨r', _, i2, i3⟩ => by cases i2; exact i3) ?_
        refine wpAnyF_N (N' := Blk r #[.string n0, .string n1, .string n2, .string n3] 9) ?_
        apply wpAnyF_hd ⟨w9, hO9, hk9⟩ [false, false, false, false, true, true, true] 5 (Blk.closed _ _ _) (fun _ h => h) (by kernel_rfl) (by kernel_rfl) (by kernel_rfl) (by kernel_rfl) (by simp)
        · intro E hE hEN hEn; have hk : ∀ c : Cls [] W E, c.wd.cell? ⟨r, 1, none⟩ = some (.string n1) := fun c => (hEN _ c.more).cell 1; (repeat (first | (refine wpHL_take ?_; go_big_quiet_step (fail); refine wpQuiet_nil ?_) | refine wpHL_skip ?_)); exact wpHL_end rfl
        refine wpAnyF_ready [9] 4 (by kernel_rfl) (by kernel_rfl) (by simp) (AllF.cons ?_ AllF.nil)
        refine stepN_call (v := .string Y) (some 21) (Blk r #[.string n0, .string n1, .string n2, .string n3] 9) (by rfl) (by rfl) (by rfl) (fun _ => by go_simp) (Blk.closed _ _ _) (fun _ h => h) (fun w1 hO hd => (HTy.out w1 (HTW.out.below hO.below)).mono fun _ _ ⟨he, hb⟩ => ⟨he, Over.of_below hb, Blk.closed _ _ _ _ _ hd hb⟩) (fun hne => ?_)
        simp only [Act.put, List.setIfInBounds_toArray, List.set_cons_succ, List.set_cons_zero]
        apply wpAnyF_hd hne [false, false, false, false, false, false, false, false, false, false, true, true, true, true] 0 (Blk.closed _ _ _) (fun _ h => h) (by kernel_rfl) (by kernel_rfl) (by kernel_rfl) (by kernel_rfl) (by simp)
        · intro E hE hEN hEn; (repeat (first | (refine wpHL_take ?_; go_big_quiet_step (fail); refine wpQuiet_nil ?_) | refine wpHL_skip ?_)); exact wpHL_end rfl
        refine wpAnyF_done (by kernel_rfl) (fun Wz hOz hDz => NoPanic.normal ?_) _
        try dsimp only
        have hb3 : Below w.heap.size w Wz := below_step hOz.below hb2.size hb2
        clear HA0 HA1 HA2 HA3 hk9 hDz
        go_wp2
        go_roundw
        case rel => exact ⟨k + 1, by omega, by go_num, by rw [HL'.out, HE.out], hb3⟩
        case measure => simp [intOf]; omega
      · have f1 : (n2 ++ ⟨#[32]⟩ : ByteArray).size = n2.size + 1 := by rw [ByteArray.size_append]; rfl
        have f2 : (n2 ++ ⟨#[32]⟩ ++ Y : ByteArray).size = n2.size + 1 + Y.size := by rw [ByteArray.size_append, f1]
        have f3 : (n2 ++ ⟨#[32]⟩ ++ Y ++ ⟨#[10]⟩ : ByteArray).size = n2.size + 1 + Y.size + 1 := by rw [ByteArray.size_append, f2]; rfl
        have HA0 := fun w => run_string_add_sum (P := Tryz.prog) w n2 ⟨#[32]⟩ (by omega)
        have HA1 := fun w => run_string_add_sum (P := Tryz.prog) w (n2 ++ ⟨#[32]⟩) Y (by omega)
        have HA2 := fun w => run_string_add_sum (P := Tryz.prog) w (n2 ++ ⟨#[32]⟩ ++ Y) ⟨#[10]⟩ (by omega)
        have HA3 := fun w => run_string_add_sum (P := Tryz.prog) w out (n2 ++ ⟨#[32]⟩ ++ Y ++ ⟨#[10]⟩) (by omega)
        have hl1 : out ++ (n2 ++ ⟨#[32]⟩ ++ Y ++ ⟨#[10]⟩) = out ++ line := by have h := HL.out; rw [show nmV n0 n1 n2 n3 2 = n2 from rfl] at h; rw [h]
        have HL' := Lib.hid hl1
        clear hl1
        clear f1 f2 f3 hs4 e1 e2
        have kV0 : (W).cell? ⟨r5, 0, none⟩ = some (.int .i64 2) := kV.cell 0; have kV1 : (W).cell? ⟨r5, 1, none⟩ = some (.int .i64 y) := kV.cell 1; have kVl : r5 < (W).heap.size := kV.lt
        refine wp_region_cls [] (fun _ => false) (fun _ => True) (fun _ => True) (by kernel_rfl) trivial ?_
        apply wpAnyF_hd ⟨W, Over.refl _ _, trivial⟩ [true, false, true, true, false, false, false, true, true] 9 (Closed.true) (fun _ _ => trivial) (by kernel_rfl) (by kernel_rfl) (by kernel_rfl) (by kernel_rfl) (by simp)
        · intro E hE hEN hEn; (repeat (first | (refine wpHL_take ?_; go_big_quiet_step (fail); refine wpQuiet_nil ?_) | refine wpHL_skip ?_)); exact wpHL_end rfl
        refine wpAnyF_ready [1] 8 (by kernel_rfl) (by kernel_rfl) (by simp) (AllF.cons ?_ AllF.nil)
        refine stepC_calle (some 13) (fun v w' => ∃ r, W.heap.size ≤ r ∧ v = .slice (some ⟨r, 0, none⟩) 4 4 ∧ Blk r #[.string n0, .string n1, .string n2, .string n3] 9 w') (by rfl) (by rfl) (by rfl) (fun _ => by go_simp) (fun v w1 w2 ⟨r, i1, i2, i3⟩ hb => ⟨r, i1, i2, Blk.closed _ _ _ _ _ i3 hb⟩) (fun w1 hO _ => (HN.out w1).mono fun _ w2 ⟨r, hr, he, hb, hk⟩ => ⟨_, he, Over.of_below hb, r, Nat.le_trans hO.size hr, rfl, hk⟩) (fun v hne => ?_)
        obtain ⟨w9, hO9, r, hr, rfl, hk9⟩ := hne
        simp only [Act.put, List.setIfInBounds_toArray, List.set_cons_succ, List.set_cons_zero]
        refine wpAnyF_weaken (D2 := Blk r #[.string n0, .string n1, .string n2, .string n3] 9) (fun w' ⟨r', _, i2, i3⟩ => by cases i2; exact i3) ?_
        refine wpAnyF_N (N' := Blk r #[.string n0, .string n1, .string n2, .string n3] 9) ?_
        apply wpAnyF_hd ⟨w9, hO9, hk9⟩ [false, false, false, false, true, true, true] 5 (Blk.closed _ _ _) (fun _ h => h) (by kernel_rfl) (by kernel_rfl) (by kernel_rfl) (by kernel_rfl) (by simp)
        · intro E hE hEN hEn; have hk : ∀ c : Cls [] W E, c.wd.cell? ⟨r, 2, none⟩ = some (.string n2) := fun c => (hEN _ c.more).cell 2; (repeat (first | (refine wpHL_take ?_; go_big_quiet_step (fail); refine wpQuiet_nil ?_) | refine wpHL_skip ?_)); exact wpHL_end rfl
        refine wpAnyF_ready [9] 4 (by kernel_rfl) (by kernel_rfl) (by simp) (AllF.cons ?_ AllF.nil)
        refine stepN_call (v := .string Y) (some 21) (Blk r #[.string n0, .string n1, .string n2, .string n3] 9) (by rfl) (by rfl) (by rfl) (fun _ => by go_simp) (Blk.closed _ _ _) (fun _ h => h) (fun w1 hO hd => (HTy.out w1 (HTW.out.below hO.below)).mono fun _ _ ⟨he, hb⟩ => ⟨he, Over.of_below hb, Blk.closed _ _ _ _ _ hd hb⟩) (fun hne => ?_)
        simp only [Act.put, List.setIfInBounds_toArray, List.set_cons_succ, List.set_cons_zero]
        apply wpAnyF_hd hne [false, false, false, false, false, false, false, false, false, false, true, true, true, true] 0 (Blk.closed _ _ _) (fun _ h => h) (by kernel_rfl) (by kernel_rfl) (by kernel_rfl) (by kernel_rfl) (by simp)
        · intro E hE hEN hEn; (repeat (first | (refine wpHL_take ?_; go_big_quiet_step (fail); refine wpQuiet_nil ?_) | refine wpHL_skip ?_)); exact wpHL_end rfl
        refine wpAnyF_done (by kernel_rfl) (fun Wz hOz hDz => NoPanic.normal ?_) _
        try dsimp only
        have hb3 : Below w.heap.size w Wz := below_step hOz.below hb2.size hb2
        clear HA0 HA1 HA2 HA3 hk9 hDz
        go_wp2
        go_roundw
        case rel => exact ⟨k + 1, by omega, by go_num, by rw [HL'.out, HE.out], hb3⟩
        case measure => simp [intOf]; omega
      · have f1 : (n3 ++ ⟨#[32]⟩ : ByteArray).size = n3.size + 1 := by rw [ByteArray.size_append]; rfl
        have f2 : (n3 ++ ⟨#[32]⟩ ++ Y : ByteArray).size = n3.size + 1 + Y.size := by rw [ByteArray.size_append, f1]
        have f3 : (n3 ++ ⟨#[32]⟩ ++ Y ++ ⟨#[10]⟩ : ByteArray).size = n3.size + 1 + Y.size + 1 := by rw [ByteArray.size_append, f2]; rfl
        have HA0 := fun w => run_string_add_sum (P := Tryz.prog) w n3 ⟨#[32]⟩ (by omega)
        have HA1 := fun w => run_string_add_sum (P := Tryz.prog) w (n3 ++ ⟨#[32]⟩) Y (by omega)
        have HA2 := fun w => run_string_add_sum (P := Tryz.prog) w (n3 ++ ⟨#[32]⟩ ++ Y) ⟨#[10]⟩ (by omega)
        have HA3 := fun w => run_string_add_sum (P := Tryz.prog) w out (n3 ++ ⟨#[32]⟩ ++ Y ++ ⟨#[10]⟩) (by omega)
        have hl1 : out ++ (n3 ++ ⟨#[32]⟩ ++ Y ++ ⟨#[10]⟩) = out ++ line := by have h := HL.out; rw [show nmV n0 n1 n2 n3 3 = n3 from rfl] at h; rw [h]
        have HL' := Lib.hid hl1
        clear hl1
        clear f1 f2 f3 hs4 e1 e2
        have kV0 : (W).cell? ⟨r5, 0, none⟩ = some (.int .i64 3) := kV.cell 0; have kV1 : (W).cell? ⟨r5, 1, none⟩ = some (.int .i64 y) := kV.cell 1; have kVl : r5 < (W).heap.size := kV.lt
        refine wp_region_cls [] (fun _ => false) (fun _ => True) (fun _ => True) (by kernel_rfl) trivial ?_
        apply wpAnyF_hd ⟨W, Over.refl _ _, trivial⟩ [true, false, true, true, false, false, false, true, true] 9 (Closed.true) (fun _ _ => trivial) (by kernel_rfl) (by kernel_rfl) (by kernel_rfl) (by kernel_rfl) (by simp)
        · intro E hE hEN hEn; (repeat (first | (refine wpHL_take ?_; go_big_quiet_step (fail); refine wpQuiet_nil ?_) | refine wpHL_skip ?_)); exact wpHL_end rfl
        refine wpAnyF_ready [1] 8 (by kernel_rfl) (by kernel_rfl) (by simp) (AllF.cons ?_ AllF.nil)
        refine stepC_calle (some 13) (fun v w' => ∃ r, W.heap.size ≤ r ∧ v = .slice (some ⟨r, 0, none⟩) 4 4 ∧ Blk r #[.string n0, .string n1, .string n2, .string n3] 9 w') (by rfl) (by rfl) (by rfl) (fun _ => by go_simp) (fun v w1 w2 ⟨r, i1, i2, i3⟩ hb => ⟨r, i1, i2, Blk.closed _ _ _ _ _ i3 hb⟩) (fun w1 hO _ => (HN.out w1).mono fun _ w2 ⟨r, hr, he, hb, hk⟩ => ⟨_, he, Over.of_below hb, r, Nat.le_trans hO.size hr, rfl, hk⟩) (fun v hne => ?_)
        obtain ⟨w9, hO9, r, hr, rfl, hk9⟩ := hne
        simp only [Act.put, List.setIfInBounds_toArray, List.set_cons_succ, List.set_cons_zero]
        refine wpAnyF_weaken (D2 := Blk r #[.string n0, .string n1, .string n2, .string n3] 9) (fun w' ⟨r', _, i2, i3⟩ => by cases i2; exact i3) ?_
        refine wpAnyF_N (N' := Blk r #[.string n0, .string n1, .string n2, .string n3] 9) ?_
        apply wpAnyF_hd ⟨w9, hO9, hk9⟩ [false, false, false, false, true, true, true] 5 (Blk.closed _ _ _) (fun _ h => h) (by kernel_rfl) (by kernel_rfl) (by kernel_rfl) (by kernel_rfl) (by simp)
        · intro E hE hEN hEn; have hk : ∀ c : Cls [] W E, c.wd.cell? ⟨r, 3, none⟩ = some (.string n3) := fun c => (hEN _ c.more).cell 3; (repeat (first | (refine wpHL_take ?_; go_big_quiet_step (fail); refine wpQuiet_nil ?_) | refine wpHL_skip ?_)); exact wpHL_end rfl
        refine wpAnyF_ready [9] 4 (by kernel_rfl) (by kernel_rfl) (by simp) (AllF.cons ?_ AllF.nil)
        refine stepN_call (v := .string Y) (some 21) (Blk r #[.string n0, .string n1, .string n2, .string n3] 9) (by rfl) (by rfl) (by rfl) (fun _ => by go_simp) (Blk.closed _ _ _) (fun _ h => h) (fun w1 hO hd => (HTy.out w1 (HTW.out.below hO.below)).mono fun _ _ ⟨he, hb⟩ => ⟨he, Over.of_below hb, Blk.closed _ _ _ _ _ hd hb⟩) (fun hne => ?_)
        simp only [Act.put, List.setIfInBounds_toArray, List.set_cons_succ, List.set_cons_zero]
        apply wpAnyF_hd hne [false, false, false, false, false, false, false, false, false, false, true, true, true, true] 0 (Blk.closed _ _ _) (fun _ h => h) (by kernel_rfl) (by kernel_rfl) (by kernel_rfl) (by kernel_rfl) (by simp)
        · intro E hE hEN hEn; (repeat (first | (refine wpHL_take ?_; go_big_quiet_step (fail); refine wpQuiet_nil ?_) | refine wpHL_skip ?_)); exact wpHL_end rfl
        refine wpAnyF_done (by kernel_rfl) (fun Wz hOz hDz => NoPanic.normal ?_) _
        try dsimp only
        have hb3 : Below w.heap.size w Wz := below_step hOz.below hb2.size hb2
        clear HA0 HA1 HA2 HA3 hk9 hDz
        go_wp2
        go_roundw
        case rel => exact ⟨k + 1, by omega, by go_num, by rw [HL'.out, HE.out], hb3⟩
        case measure => simp [intOf]; omega
    · obtain rfl : k = L.length := by omega
      rw [List.take_length]
      go_wp2
      go_ret
      exact ⟨rfl, hb⟩
end Go.Proofs.YtpnpidepkfnofaaGreatDoor
