/- Walks: the calculator's steps. -/
import Derived.Test.YtcnfjapoopdiaaaFrOps
namespace Go.Proofs.Ytcnfjapoopdiaaa
open Go.RowKit

/-- all blocks but c are kept -/
structure Off (c : Nat) (w w' : World) : Prop where
  os : w'.os = w.os
  tape : w'.tape = w.tape
  output : w'.output = w.output
  size : w.heap.size ≤ w'.heap.size
  block : ∀ k, k < w.heap.size → k ≠ c → w'.heap[k]? = w.heap[k]?
theorem Off.of {c : Nat} {w w' : World} (h : Below w.heap.size w w') : Off c w w' := ⟨h.os, h.tape, h.output, h.size, fun k hk _ => h.block k hk⟩
theorem Off.trans {c : Nat} {a b d : World} (h : Off c a b) (k : Off c b d) : Off c a d :=
  ⟨k.os.trans h.os, k.tape.trans h.tape, k.output.trans h.output, Nat.le_trans h.size k.size, fun i hi hc => (k.block i (Nat.lt_of_lt_of_le hi h.size) hc).trans (h.block i hi hc)⟩
theorem Off.below {c B : Nat} {w w' : World} (h : Off c w w') (hc : B ≤ c) (hB : B ≤ w.heap.size) : Below B w w' := ⟨h.os, h.tape, h.output, h.size, fun k hk => h.block k (by omega) (by omega)⟩
def calcOk (w : World) (c : Nat) : Bool := match w.cell? ⟨c, 0, none⟩ with | some (.bool b) => b | _ => false
theorem calcOk_of {w : World} {c : Nat} {b : Bool} (h : w.cell? ⟨c, 0, none⟩ = some (.bool b)) : calcOk w c = b := by unfold calcOk; rw [h]
theorem Off.cell {c : Nat} {w w' : World} (h : Off c w w') {b o : Nat} (hb : b < w.heap.size) (hc : b ≠ c) : w'.cell? ⟨b, o, none⟩ = w.cell? ⟨b, o, none⟩ := by
  have := h.block b hb hc
  unfold World.cell?
  simp only [this]
theorem Off.refl (c : Nat) (w : World) : Off c w w := ⟨rfl, rfl, rfl, Nat.le_refl _, fun _ _ _ => rfl⟩
theorem Off.alloc {c : Nat} {a w : World} (h : Off c a w) (o : Obj) : Off c a (w.alloc o) := h.trans (Off.of ((Below.refl _ _).alloc (Nat.le_refl _) _))
theorem Off.setC {c : Nat} {a w : World} (h : Off c a w) (i : Nat) (v : Value) : Off c a (w.setCell ⟨c, i, none⟩ v) :=
  h.trans ⟨rfl, rfl, rfl, by simp [World.setCell], fun k _ hc => Below.heap_setCell _ _ _ _ (by simpa using hc)⟩
theorem Off.setN {c r : Nat} {a w : World} (h : Off c a w) (hr : a.heap.size ≤ r) (i : Nat) (v : Value) : Off c a (w.setCell ⟨r, i, none⟩ v) :=
  ⟨h.os, h.tape, h.output, by simpa [World.setCell] using h.size, fun k hk hc => (Below.heap_setCell _ _ _ _ (by show k ≠ r; omega)).trans (h.block k hk hc)⟩
theorem keep_fin {c : Nat} {w : World} {o b : Bool} {X Y : Obj} (hc : w.cell? ⟨c, 0, none⟩ = some (.bool o)) (hf : w.frozen? ⟨c, 0, none⟩ = false) (hz : c < w.heap.size) :
    Off c w (((w.setCell ⟨c, 0, none⟩ (.bool b)).alloc X).alloc Y) ∧ (((w.setCell ⟨c, 0, none⟩ (.bool b)).alloc X).alloc Y).cell? ⟨c, 0, none⟩ = some (.bool b) ∧ (((w.setCell ⟨c, 0, none⟩ (.bool b)).alloc X).alloc Y).frozen? ⟨c, 0, none⟩ = false := by
  have hz' : c < (w.setCell ⟨c, 0, none⟩ (.bool b)).heap.size := by simpa [World.setCell] using hz
  have hB : Below (w.setCell ⟨c, 0, none⟩ (.bool b)).heap.size (w.setCell ⟨c, 0, none⟩ (.bool b)) (((w.setCell ⟨c, 0, none⟩ (.bool b)).alloc X).alloc Y) := ((Below.refl _ _).alloc (Nat.le_refl _) _).alloc (by simp) _
  refine ⟨Off.alloc (Off.alloc (Off.setC (Off.refl c w) _ _) _) _, ?_, ?_⟩
  · rw [hB.cell (p := ⟨c, 0, none⟩) hz', World.cell?_setCell_same' _ _ _ (by rw [hc]; rfl)]
  · rw [hB.frozen (p := ⟨c, 0, none⟩) hz', World.frozen?_setCell]; exact hf
set_option maxHeartbeats 1000000 in
theorem c_keep (c : Nat) (n d : Int) (o ok : Bool) (w : World) (hc : w.cell? ⟨c, 0, none⟩ = some (.bool o)) (hf : w.frozen? ⟨c, 0, none⟩ = false) (hz : c < w.heap.size) :
    Calls Try.prog 34 #[.pointer (some ⟨c, 0, none⟩), .agg #[.int .i64 n, .int .i64 d], .bool ok] w fun e w' => e = .returned (.agg #[.int .i64 (if o && ok then n else 0), .int .i64 (if o && ok then d else 1)]) ∧ Off c w w' ∧ w'.cell? ⟨c, 0, none⟩ = some (.bool (o && ok)) ∧ w'.frozen? ⟨c, 0, none⟩ = false := by
  cases o <;> cases ok
  · go_enter Try.func34, Try.ntmps34
    go_wp2
    refine bodyPost_ret (v := .agg #[.int .i64 0, .int .i64 1]) (by simp [results, Try.results34, go_sem]) rfl ⟨rfl, ?_⟩
    exact keep_fin hc hf hz
  · go_enter Try.func34, Try.ntmps34
    go_wp2
    refine bodyPost_ret (v := .agg #[.int .i64 0, .int .i64 1]) (by simp [results, Try.results34, go_sem]) rfl ⟨rfl, ?_⟩
    exact keep_fin hc hf hz
  · go_enter Try.func34, Try.ntmps34
    go_wp2
    refine bodyPost_ret (v := .agg #[.int .i64 0, .int .i64 1]) (by simp [results, Try.results34, go_sem]) rfl ⟨rfl, ?_⟩
    exact keep_fin hc hf hz
  · go_enter Try.func34, Try.ntmps34
    go_wp2
    refine bodyPost_ret (v := .agg #[.int .i64 n, .int .i64 d]) (by simp [results, Try.results34, go_sem]) rfl ⟨rfl, ?_⟩
    exact keep_fin hc hf hz
theorem Bx.off {r c : Nat} {x y : Value} {W w1 : World} (h : Bx r x y W) (ho : Off c W w1) (hr : r ≠ c) : Bx r x y w1 := by
  obtain ⟨h1, h2, h3, h4, h5⟩ := h
  have hb := ho.block r h5 hr
  refine ⟨(ho.cell h5 hr).trans h1, (ho.cell h5 hr).trans h2, ?_, ?_, Nat.lt_of_lt_of_le h5 ho.size⟩
  · unfold World.frozen? at h3 ⊢; simp only [hb]; exact h3
  · unfold World.frozen? at h4 ⊢; simp only [hb]; exact h4
theorem off_fin {c r : Nat} {w w1 w2 : World} {b : Bool} {x y : Value} (h : Off c w1 w2) (hB : Below w.heap.size w w1) (hr : w.heap.size ≤ r ∧ c < w.heap.size) (hk : w2.cell? ⟨c, 0, none⟩ = some (.bool b)) (hg : w2.frozen? ⟨c, 0, none⟩ = false) :
    Off c w ((w2.setCell ⟨r, 0, none⟩ x).setCell ⟨r, 1, none⟩ y) ∧ ((w2.setCell ⟨r, 0, none⟩ x).setCell ⟨r, 1, none⟩ y).cell? ⟨c, 0, none⟩ = some (.bool b) ∧ ((w2.setCell ⟨r, 0, none⟩ x).setCell ⟨r, 1, none⟩ y).frozen? ⟨c, 0, none⟩ = false := by
  refine ⟨Off.setN (Off.setN ((Off.of hB).trans h) hr.1 _ _) hr.1 _ _, ?_, ?_⟩
  · rw [World.cell?_setCell_other _ _ _ _ (by simp), World.cell?_setCell_other _ _ _ _ (by simp)]; exact hk
  · rw [World.frozen?_setCell, World.frozen?_setCell]; exact hg
theorem kq {o ok : Bool} (N z : Int) : (if o && ok then rsI ok N else z) = if o && ok then N else z := by cases o <;> cases ok <;> rfl
set_option maxHeartbeats 1000000 in
theorem c_times (c : Nat) (n d m e : Int) (o : Bool) (hA : frOk n d = true) (hB : frOk m e = true) (w : World) (hc : w.cell? ⟨c, 0, none⟩ = some (.bool o)) (hf : w.frozen? ⟨c, 0, none⟩ = false) (hz : c < w.heap.size) :
    Calls Try.prog 37 #[.pointer (some ⟨c, 0, none⟩), .agg #[.int .i64 n, .int .i64 d], .agg #[.int .i64 m, .int .i64 e]] w fun r w' => r = .returned (.agg #[.int .i64 (if o && mOk (n * m) (d * e) then mkN (n * m) (d * e) else 0), .int .i64 (if o && mOk (n * m) (d * e) then mkD (n * m) (d * e) else 1)]) ∧ Off c w w' ∧ w'.cell? ⟨c, 0, none⟩ = some (.bool (o && mOk (n * m) (d * e))) ∧ w'.frozen? ⟨c, 0, none⟩ = false := by
  have H := Lib.hid (c_ProductOf n d m e hA hB)
  rw [← kq (mkN (n * m) (d * e)), ← kq (mkD (n * m) (d * e))]
  generalize rsI (mOk (n * m) (d * e)) (mkN (n * m) (d * e)) = U at H ⊢
  generalize rsI (mOk (n * m) (d * e)) (mkD (n * m) (d * e)) = V at H ⊢
  generalize mOk (n * m) (d * e) = ok at H ⊢
  have HK := Lib.hid (c_keep c U V o ok)
  generalize (if (o && ok) = true then U else 0) = U2 at HK ⊢
  generalize (if (o && ok) = true then V else 1) = V2 at HK ⊢
  have hx : Bx (w.heap.size + 1 + 1) (.int .i64 0) (.int .i64 0) (((w.alloc (.cells #[.int .i64 n, .int .i64 d] 25)).alloc (.cells #[.int .i64 m, .int .i64 e] 25)).alloc (.cells #[.int .i64 0, .int .i64 0] 25)) := ⟨by simp [go_sem], by simp [go_sem], by simp [go_sem], by simp [go_sem], by simp⟩
  have hB0 : Below w.heap.size w (((w.alloc (.cells #[.int .i64 n, .int .i64 d] 25)).alloc (.cells #[.int .i64 m, .int .i64 e] 25)).alloc (.cells #[.int .i64 0, .int .i64 0] 25)) := (((Below.refl _ _).alloc (Nat.le_refl _) _).alloc (by simp) _).alloc (by simp; omega) _
  go_enter Try.func37, Try.ntmps37
  go_wp2_with fail
  (go_at_call 81; refine (H.out _).mono ?_; rintro e w1 ⟨rfl, hb1⟩; obtain ⟨hc1, hf1⟩ := bcell hb1; have hz1 := hb1.size; (try simp only [World.size_alloc] at hz1); (try (have hy1 : w.heap.size < w1.heap.size := by omega)); (try (have hx1 := Nat.lt_of_succ_le hz1)); (try (have hv1 := Nat.lt_of_succ_le (Nat.le_of_lt hx1))))
  have hB1 : Below w.heap.size w w1 := below_step hb1 hB0.size hB0
  have hz1 : c < w1.heap.size := Nat.lt_of_lt_of_le hz hB1.size
  go_wp2_with fail
  (go_at_call 34; refine (HK.out _ ((hB1.cell (p := ⟨c, 0, none⟩) hz).trans hc) ((hB1.frozen (p := ⟨c, 0, none⟩) hz).trans hf) hz1).mono ?_; rintro _ w2 ⟨rfl, ho2, hk2, hg2⟩)
  obtain ⟨x1, x2, x3, x4, x5⟩ := (hx.below hb1).off ho2 (by omega)
  go_wp2
  refine bodyPost_ret (v := .agg #[.int .i64 U2, .int .i64 V2]) (by simp [results, Try.results37, go_sem, x1, x2]) rfl ⟨rfl, ?_⟩
  exact off_fin ho2 hB1 (by omega) hk2 hg2
set_option maxHeartbeats 1000000 in
theorem c_plus (c : Nat) (n d m e : Int) (o : Bool) (hA : frOk n d = true) (hB : frOk m e = true) (w : World) (hc : w.cell? ⟨c, 0, none⟩ = some (.bool o)) (hf : w.frozen? ⟨c, 0, none⟩ = false) (hz : c < w.heap.size) :
    Calls Try.prog 40 #[.pointer (some ⟨c, 0, none⟩), .agg #[.int .i64 n, .int .i64 d], .agg #[.int .i64 m, .int .i64 e]] w fun r w' => r = .returned (.agg #[.int .i64 (if o && mOk (n * e + m * d) (d * e) then mkN (n * e + m * d) (d * e) else 0), .int .i64 (if o && mOk (n * e + m * d) (d * e) then mkD (n * e + m * d) (d * e) else 1)]) ∧ Off c w w' ∧ w'.cell? ⟨c, 0, none⟩ = some (.bool (o && mOk (n * e + m * d) (d * e))) ∧ w'.frozen? ⟨c, 0, none⟩ = false := by
  have H := Lib.hid (c_SumOf n d m e hA hB)
  rw [← kq (mkN (n * e + m * d) (d * e)), ← kq (mkD (n * e + m * d) (d * e))]
  generalize rsI (mOk (n * e + m * d) (d * e)) (mkN (n * e + m * d) (d * e)) = U at H ⊢
  generalize rsI (mOk (n * e + m * d) (d * e)) (mkD (n * e + m * d) (d * e)) = V at H ⊢
  generalize mOk (n * e + m * d) (d * e) = ok at H ⊢
  have HK := Lib.hid (c_keep c U V o ok)
  generalize (if (o && ok) = true then U else 0) = U2 at HK ⊢
  generalize (if (o && ok) = true then V else 1) = V2 at HK ⊢
  have hx : Bx (w.heap.size + 1 + 1) (.int .i64 0) (.int .i64 0) (((w.alloc (.cells #[.int .i64 n, .int .i64 d] 25)).alloc (.cells #[.int .i64 m, .int .i64 e] 25)).alloc (.cells #[.int .i64 0, .int .i64 0] 25)) := ⟨by simp [go_sem], by simp [go_sem], by simp [go_sem], by simp [go_sem], by simp⟩
  have hB0 : Below w.heap.size w (((w.alloc (.cells #[.int .i64 n, .int .i64 d] 25)).alloc (.cells #[.int .i64 m, .int .i64 e] 25)).alloc (.cells #[.int .i64 0, .int .i64 0] 25)) := (((Below.refl _ _).alloc (Nat.le_refl _) _).alloc (by simp) _).alloc (by simp; omega) _
  go_enter Try.func40, Try.ntmps40
  go_wp2_with fail
  (go_at_call 84; refine (H.out _).mono ?_; rintro e w1 ⟨rfl, hb1⟩; obtain ⟨hc1, hf1⟩ := bcell hb1; have hz1 := hb1.size; (try simp only [World.size_alloc] at hz1); (try (have hy1 : w.heap.size < w1.heap.size := by omega)); (try (have hx1 := Nat.lt_of_succ_le hz1)); (try (have hv1 := Nat.lt_of_succ_le (Nat.le_of_lt hx1))))
  have hB1 : Below w.heap.size w w1 := below_step hb1 hB0.size hB0
  have hz1 : c < w1.heap.size := Nat.lt_of_lt_of_le hz hB1.size
  go_wp2_with fail
  (go_at_call 34; refine (HK.out _ ((hB1.cell (p := ⟨c, 0, none⟩) hz).trans hc) ((hB1.frozen (p := ⟨c, 0, none⟩) hz).trans hf) hz1).mono ?_; rintro _ w2 ⟨rfl, ho2, hk2, hg2⟩)
  obtain ⟨x1, x2, x3, x4, x5⟩ := (hx.below hb1).off ho2 (by omega)
  go_wp2
  refine bodyPost_ret (v := .agg #[.int .i64 U2, .int .i64 V2]) (by simp [results, Try.results40, go_sem, x1, x2]) rfl ⟨rfl, ?_⟩
  exact off_fin ho2 hB1 (by omega) hk2 hg2
set_option maxHeartbeats 1000000 in
theorem c_minus (c : Nat) (n d m e : Int) (o : Bool) (hA : frOk n d = true) (hB : frOk m e = true) (w : World) (hc : w.cell? ⟨c, 0, none⟩ = some (.bool o)) (hf : w.frozen? ⟨c, 0, none⟩ = false) (hz : c < w.heap.size) :
    Calls Try.prog 38 #[.pointer (some ⟨c, 0, none⟩), .agg #[.int .i64 n, .int .i64 d], .agg #[.int .i64 m, .int .i64 e]] w fun r w' => r = .returned (.agg #[.int .i64 (if o && mOk (n * e - m * d) (d * e) then mkN (n * e - m * d) (d * e) else 0), .int .i64 (if o && mOk (n * e - m * d) (d * e) then mkD (n * e - m * d) (d * e) else 1)]) ∧ Off c w w' ∧ w'.cell? ⟨c, 0, none⟩ = some (.bool (o && mOk (n * e - m * d) (d * e))) ∧ w'.frozen? ⟨c, 0, none⟩ = false := by
  have H := Lib.hid (c_DifferenceOf n d m e hA hB)
  rw [← kq (mkN (n * e - m * d) (d * e)), ← kq (mkD (n * e - m * d) (d * e))]
  generalize rsI (mOk (n * e - m * d) (d * e)) (mkN (n * e - m * d) (d * e)) = U at H ⊢
  generalize rsI (mOk (n * e - m * d) (d * e)) (mkD (n * e - m * d) (d * e)) = V at H ⊢
  generalize mOk (n * e - m * d) (d * e) = ok at H ⊢
  have HK := Lib.hid (c_keep c U V o ok)
  generalize (if (o && ok) = true then U else 0) = U2 at HK ⊢
  generalize (if (o && ok) = true then V else 1) = V2 at HK ⊢
  have hx : Bx (w.heap.size + 1 + 1) (.int .i64 0) (.int .i64 0) (((w.alloc (.cells #[.int .i64 n, .int .i64 d] 25)).alloc (.cells #[.int .i64 m, .int .i64 e] 25)).alloc (.cells #[.int .i64 0, .int .i64 0] 25)) := ⟨by simp [go_sem], by simp [go_sem], by simp [go_sem], by simp [go_sem], by simp⟩
  have hB0 : Below w.heap.size w (((w.alloc (.cells #[.int .i64 n, .int .i64 d] 25)).alloc (.cells #[.int .i64 m, .int .i64 e] 25)).alloc (.cells #[.int .i64 0, .int .i64 0] 25)) := (((Below.refl _ _).alloc (Nat.le_refl _) _).alloc (by simp) _).alloc (by simp; omega) _
  go_enter Try.func38, Try.ntmps38
  go_wp2_with fail
  (go_at_call 82; refine (H.out _).mono ?_; rintro e w1 ⟨rfl, hb1⟩; obtain ⟨hc1, hf1⟩ := bcell hb1; have hz1 := hb1.size; (try simp only [World.size_alloc] at hz1); (try (have hy1 : w.heap.size < w1.heap.size := by omega)); (try (have hx1 := Nat.lt_of_succ_le hz1)); (try (have hv1 := Nat.lt_of_succ_le (Nat.le_of_lt hx1))))
  have hB1 : Below w.heap.size w w1 := below_step hb1 hB0.size hB0
  have hz1 : c < w1.heap.size := Nat.lt_of_lt_of_le hz hB1.size
  go_wp2_with fail
  (go_at_call 34; refine (HK.out _ ((hB1.cell (p := ⟨c, 0, none⟩) hz).trans hc) ((hB1.frozen (p := ⟨c, 0, none⟩) hz).trans hf) hz1).mono ?_; rintro _ w2 ⟨rfl, ho2, hk2, hg2⟩)
  obtain ⟨x1, x2, x3, x4, x5⟩ := (hx.below hb1).off ho2 (by omega)
  go_wp2
  refine bodyPost_ret (v := .agg #[.int .i64 U2, .int .i64 V2]) (by simp [results, Try.results38, go_sem, x1, x2]) rfl ⟨rfl, ?_⟩
  exact off_fin ho2 hB1 (by omega) hk2 hg2
end Go.Proofs.Ytcnfjapoopdiaaa
