/- The law's walk. -/
import Derived.Test.YtmahgnmacakfnaaApply
namespace Go.Proofs.Ytmahgnmacakfnaa
open Go.RowKit

/-- two boxes of two cells -/
def S4 (w : World) (n : Nat) (a b c d : Value) (w' : World) : Prop :=
  w'.cell? ⟨n, 0, none⟩ = some a ∧ w'.cell? ⟨n, 1, none⟩ = some b ∧ w'.cell? ⟨n + 1, 0, none⟩ = some c ∧ w'.cell? ⟨n + 1, 1, none⟩ = some d ∧ n + 1 < w'.heap.size ∧ w.heap.size ≤ n ∧ Below w.heap.size w w'
section
variable {w W w1 : World} {n r : Nat} {a b c d : Value}
theorem S4.below (h : S4 w n a b c d W) (hb : Below W.heap.size W w1) : S4 w n a b c d w1 := by
  obtain ⟨h1, h2, h3, h4, h7, h8, h9⟩ := h
  have hc := fun b o hb' => hb.cell (p := ⟨b, o, none⟩) hb'
  exact ⟨(hc n 0 (by show n < _; omega)).trans h1, (hc n 1 (by show n < _; omega)).trans h2, (hc (n + 1) 0 h7).trans h3, (hc (n + 1) 1 h7).trans h4, Nat.lt_of_lt_of_le h7 hb.size, h8, h9.trans (hb.mono (by omega))⟩
theorem S4.drew (h : S4 w n a b c d W) : S4 w n a b c d W.drew := S4.below h ((Below.refl _ _).drew)
theorem S4.alloc (h : S4 w n a b c d W) (o : Obj) : S4 w n a b c d (W.alloc o) := S4.below h ((Below.refl _ _).alloc (Nat.le_refl _) _)
theorem S4.set (h : S4 w n a b c d W) (hr : n + 1 < r) (x y : Value) : S4 w n a b c d ((W.setCell ⟨r, 0, none⟩ x).setCell ⟨r, 1, none⟩ y) := by
  obtain ⟨h1, h2, h3, h4, h7, h8, h9⟩ := h
  refine ⟨?_, ?_, ?_, ?_, ?_, h8, ?_⟩
  · rw [World.cell?_setCell_other _ _ _ _ (by simp), World.cell?_setCell_other _ _ _ _ (by simp)]; exact h1
  · rw [World.cell?_setCell_other _ _ _ _ (by simp), World.cell?_setCell_other _ _ _ _ (by simp)]; exact h2
  · rw [World.cell?_setCell_other _ _ _ _ (by simp), World.cell?_setCell_other _ _ _ _ (by simp)]; exact h3
  · rw [World.cell?_setCell_other _ _ _ _ (by simp), World.cell?_setCell_other _ _ _ _ (by simp)]; exact h4
  · simpa [World.setCell] using h7
  · exact (h9.setCell (by show _ ≤ r; omega) _).setCell (by show _ ≤ r; omega) _
theorem S4.re {o o' : Obj} (h : S4 w n a b c d (W.alloc o)) (hr : n + 1 < W.heap.size) : S4 w n a b c d (W.alloc o') := by
  obtain ⟨h1, h2, h3, h4, h7, h8, h9⟩ := h
  have hc := fun b i hb' => ((Below.refl W.heap.size W).alloc (Nat.le_refl _) o).cell (p := ⟨b, i, none⟩) hb'
  have hc' := fun b i hb' => ((Below.refl W.heap.size W).alloc (Nat.le_refl _) o').cell (p := ⟨b, i, none⟩) hb'
  exact ⟨(hc' n 0 (by show n < _; omega)).trans ((hc n 0 (by show n < _; omega)).symm.trans h1), (hc' n 1 (by show n < _; omega)).trans ((hc n 1 (by show n < _; omega)).symm.trans h2), (hc' (n + 1) 0 hr).trans ((hc (n + 1) 0 hr).symm.trans h3), (hc' (n + 1) 1 hr).trans ((hc (n + 1) 1 hr).symm.trans h4), by simpa using h7, h8, ⟨h9.os, h9.tape, h9.output, by simp; omega, fun i hi => (Below.heap_alloc _ _ _ (by omega)).trans ((Below.heap_alloc _ _ _ (by omega)).symm.trans (h9.block i hi))⟩⟩
theorem S4.new (w : World) (a b c d : Value) (t t' : TypeId) : S4 w w.heap.size a b c d ((w.alloc (.cells #[a, b] t)).alloc (.cells #[c, d] t')) :=
  ⟨by simp [go_sem], by simp [go_sem], by simp [go_sem], by simp [go_sem], by simp, Nat.le_refl _, ((Below.refl _ _).alloc (Nat.le_refl _) _).alloc (by simp) _⟩
end
def Bx (r : Nat) (x y : Value) (w' : World) : Prop := w'.cell? ⟨r, 0, none⟩ = some x ∧ w'.cell? ⟨r, 1, none⟩ = some y ∧ w'.frozen? ⟨r, 0, none⟩ = false ∧ w'.frozen? ⟨r, 1, none⟩ = false ∧ r < w'.heap.size
theorem Bx.below {r : Nat} {x y : Value} {W w1 : World} (h : Bx r x y W) (hb : Below W.heap.size W w1) : Bx r x y w1 := by
  obtain ⟨h1, h2, h3, h4, h5⟩ := h
  obtain ⟨hc, hf⟩ := bcell hb
  exact ⟨(hc r 0 h5).trans h1, (hc r 1 h5).trans h2, (hf r 0 h5).trans h3, (hf r 1 h5).trans h4, Nat.lt_of_lt_of_le h5 hb.size⟩
theorem Bx.new {x y : Value} {t : TypeId} {V w1 : World} (hb : Below (V.alloc (.cells #[x, y] t)).heap.size (V.alloc (.cells #[x, y] t)) w1) : Bx V.heap.size x y w1 :=
  Bx.below ⟨by simp [go_sem], by simp [go_sem], by simp [go_sem], by simp [go_sem], by simp⟩ hb
theorem Bx.newD {x y : Value} {t : TypeId} {V w1 : World} (hb : Below (V.drew.alloc (.cells #[x, y] t)).heap.size (V.drew.alloc (.cells #[x, y] t)) w1) : Bx V.heap.size x y w1 := (show Bx V.drew.heap.size x y w1 from Bx.new hb)
theorem Bx.set {r : Nat} {x y : Value} {W : World} (h : Bx r x y W) (x' y' : Value) : Bx r x' y' ((W.setCell ⟨r, 0, none⟩ x').setCell ⟨r, 1, none⟩ y') := by
  obtain ⟨h3, h4, h5, h6, h7⟩ := h
  have e : (W.setCell ⟨r, 0, none⟩ x').cell? ⟨r, 1, none⟩ = W.cell? ⟨r, 1, none⟩ := World.cell?_setCell_other _ _ _ _ (by simp)
  refine ⟨?_, ?_, ?_, ?_, ?_⟩
  · rw [World.cell?_setCell_other _ _ _ _ (by simp), World.cell?_setCell_same' _ _ _ (by rw [h3]; rfl)]
  · rw [World.cell?_setCell_same' _ _ _ (by rw [e, h4]; rfl)]
  · rw [World.frozen?_setCell, World.frozen?_setCell]; exact h5
  · rw [World.frozen?_setCell, World.frozen?_setCell]; exact h6
  · simpa [World.setCell] using h7
theorem Bx.alloc (V : World) (x y : Value) (t : TypeId) : Bx V.heap.size x y (V.alloc (.cells #[x, y] t)) := ⟨by simp [go_sem], by simp [go_sem], by simp [go_sem], by simp [go_sem], by simp⟩
theorem Bx.re {r : Nat} {x y : Value} {V : World} {o o' : Obj} (h : Bx r x y (V.alloc o)) (hr : r < V.heap.size) : Bx r x y (V.alloc o') := by
  obtain ⟨h1, h2, h3, h4, h5⟩ := h
  obtain ⟨hc, hf⟩ := bcell ((Below.refl V.heap.size V).alloc (Nat.le_refl _) o)
  obtain ⟨hc', hf'⟩ := bcell ((Below.refl V.heap.size V).alloc (Nat.le_refl _) o')
  exact ⟨(hc' r 0 hr).trans ((hc r 0 hr).symm.trans h1), (hc' r 1 hr).trans ((hc r 1 hr).symm.trans h2), (hf' r 0 hr).trans ((hf r 0 hr).symm.trans h3), (hf' r 1 hr).trans ((hf r 1 hr).symm.trans h4), by simp at h5 ⊢; omega⟩
theorem Bx.far {r q : Nat} {x y x' y' : Value} {V : World} (h : Bx r x y V) (hr : r < q) : Bx r x y ((V.setCell ⟨q, 0, none⟩ x').setCell ⟨q, 1, none⟩ y') := by
  have hb : Below (r + 1) V ((V.setCell ⟨q, 0, none⟩ x').setCell ⟨q, 1, none⟩ y') := ((Below.refl _ _).setCell (by show _ ≤ q; omega) _).setCell (by show _ ≤ q; omega) _
  obtain ⟨h1, h2, h3, h4, h5⟩ := h
  have hc := fun b o hb' => hb.cell (p := ⟨b, o, none⟩) hb'
  have hf := fun b o hb' => hb.frozen (p := ⟨b, o, none⟩) hb'
  exact ⟨(hc r 0 (by show r < _; omega)).trans h1, (hc r 1 (by show r < _; omega)).trans h2, (hf r 0 (by show r < _; omega)).trans h3, (hf r 1 (by show r < _; omega)).trans h4, Nat.lt_of_lt_of_le h5 hb.size⟩
def S6 (w : World) (n r : Nat) (a b c d x y : Value) (w' : World) : Prop :=
  w'.cell? ⟨n, 0, none⟩ = some a ∧ w'.cell? ⟨n, 1, none⟩ = some b ∧ w'.cell? ⟨n + 1, 0, none⟩ = some c ∧ w'.cell? ⟨n + 1, 1, none⟩ = some d ∧
  w'.cell? ⟨r, 0, none⟩ = some x ∧ w'.cell? ⟨r, 1, none⟩ = some y ∧ w'.frozen? ⟨r, 0, none⟩ = false ∧ w'.frozen? ⟨r, 1, none⟩ = false ∧ r < w'.heap.size ∧ n + 1 < r ∧ n + 1 < w'.heap.size ∧ w.heap.size ≤ n ∧ Below w.heap.size w w'
section
variable {w W w1 : World} {n r q : Nat} {a b c d x y : Value}
theorem S6.mk (h : S4 w n a b c d W) (h' : Bx r x y W) (hr : n + 1 < r) : S6 w n r a b c d x y W := ⟨h.1, h.2.1, h.2.2.1, h.2.2.2.1, h'.1, h'.2.1, h'.2.2.1, h'.2.2.2.1, h'.2.2.2.2, hr, h.2.2.2.2.1, h.2.2.2.2.2.1, h.2.2.2.2.2.2⟩
theorem S6.s4 (h : S6 w n r a b c d x y W) : S4 w n a b c d W ∧ Bx r x y W ∧ n + 1 < r := by
  obtain ⟨h1, h2, h3, h4, h5, h6, h7, h8, h9, h10, h11, h12, h13⟩ := h
  exact ⟨⟨h1, h2, h3, h4, h11, h12, h13⟩, ⟨h5, h6, h7, h8, h9⟩, h10⟩
theorem S6.bel (h : S6 w n r a b c d x y W) : Below w.heap.size w W := h.s4.1.2.2.2.2.2.2
theorem S6.below (h : S6 w n r a b c d x y W) (hb : Below W.heap.size W w1) : S6 w n r a b c d x y w1 := S6.mk (h.s4.1.below hb) (h.s4.2.1.below hb) h.s4.2.2
theorem S6.drew (h : S6 w n r a b c d x y W) : S6 w n r a b c d x y W.drew := S6.below h ((Below.refl _ _).drew)
theorem S6.alloc (h : S6 w n r a b c d x y W) (o : Obj) : S6 w n r a b c d x y (W.alloc o) := S6.below h ((Below.refl _ _).alloc (Nat.le_refl _) _)
theorem S6.re {o o' : Obj} (h : S6 w n r a b c d x y (W.alloc o)) (hr : n + 1 < W.heap.size) (hr' : r < W.heap.size) : S6 w n r a b c d x y (W.alloc o') := S6.mk (h.s4.1.re hr) (h.s4.2.1.re hr') h.s4.2.2
theorem S6.set (h : S6 w n r a b c d x y W) (hr : r < q) (x' y' : Value) : S6 w n r a b c d x y ((W.setCell ⟨q, 0, none⟩ x').setCell ⟨q, 1, none⟩ y') := S6.mk (h.s4.1.set (by have := h.s4.2.2; omega) _ _) (h.s4.2.1.far hr) h.s4.2.2
end
set_option maxHeartbeats 10000000 in
theorem walk_FnExactApplyStep (A B k v : Int) (_ : (Lit.int .i64 A).wf = true) (_ : (Lit.int .i64 B).wf = true) (_ : (Lit.int .i64 k).wf = true) (_ : (Lit.int .i64 v).wf = true) (w : World) :
    Calls Try.prog 4 #[.agg #[.int .i64 A, .int .i64 B], .agg #[.int .i64 k, .int .i64 v]] w fun e w' => e = .returned (.bool true) ∧ Below w.heap.size w w' := by
  have h1 := c_sApplyStep k A B v
  have h2 := c_iApplyStep k A B v
  generalize rs (asOk k A B v) (apA k A v) = X at h1 h2
  generalize rs (asOk k A B v) (apB k B v) = Y at h1 h2
  generalize asOk k A B v = o at h1 h2
  have H1 := Lib.hid h1
  have H2 := Lib.hid h2
  clear h1 h2
  have hS := S4.new w (.int .i64 A) (.int .i64 B) (.int .i64 k) (.int .i64 v) 31 33
  go_enter Try.func4, Try.ntmps4
  go_wp2
  generalize hW : ((w.alloc (.cells #[.int .i64 A, .int .i64 B] 31)).alloc (.cells #[.int .i64 k, .int .i64 v] 33)) = W at *
  have hn := hS.2.2.2.2.1
  clear hW
  go_region_held3 (fun w' => w'.cell? ⟨w.heap.size, 0, none⟩ = some (.int .i64 A) ∧ w'.cell? ⟨w.heap.size, 1, none⟩ = some (.int .i64 B) ∧ w'.cell? ⟨w.heap.size + 1, 0, none⟩ = some (.int .i64 k) ∧ w'.cell? ⟨w.heap.size + 1, 1, none⟩ = some (.int .i64 v) ∧ w.heap.size + 1 < w'.heap.size ∧ w.heap.size ≤ w.heap.size ∧ Below w.heap.size w w')
    (first | assumption | (exact S4.drew hS) | (exact S4.alloc (by assumption) _) | (exact S4.re (by assumption) (by assumption)) | (exact S4.below (by assumption) (by assumption)) | (exact S4.set (by assumption) (by first | assumption | (simp; omega) | omega) _ _))
    (first
      | (go_at_call 17; refine (c_toCurve _ _ _).mono ?_; rintro e w1 ⟨rfl, hb1⟩; have hn1 : w.heap.size + 1 < w1.heap.size := (by have := hb1.size; first | omega | (simp at this; omega)); (try first | have hq1 := Bx.newD hb1 | have hq1 := Bx.new hb1); (try have hq1 := Bx.below (by assumption) hb1); (try (have hQ1 := hq1; obtain ⟨qa1, qb1, qc1, qd1, qe1⟩ := hq1)))
      | (go_at_call 18; refine (c_toStep _ _ _).mono ?_; rintro e w2 ⟨rfl, hb2⟩; have hn2 : w.heap.size + 1 < w2.heap.size := (by have := hb2.size; first | omega | (simp at this; omega)); (try first | have hq2 := Bx.newD hb2 | have hq2 := Bx.new hb2); (try have hq2 := Bx.below (by assumption) hb2); (try (have hQ2 := hq2; obtain ⟨qa2, qb2, qc2, qd2, qe2⟩ := hq2)))
      | (go_at_call 16; refine (H1.out _).mono ?_; rintro e w3 ⟨rfl, hb3⟩; have hn3 : w.heap.size + 1 < w3.heap.size := (by have := hb3.size; first | omega | (simp at this; omega)); (try first | have hq3 := Bx.newD hb3 | have hq3 := Bx.new hb3); (try have hq3 := Bx.below (by assumption) hb3); (try (have hQ3 := hq3; obtain ⟨qa3, qb3, qc3, qd3, qe3⟩ := hq3))))
  all_goals go_wp2
  all_goals first
    | (have hB := Bx.alloc w3 (.int .i64 X) (.int .i64 Y) 34; have hH : S4 w w.heap.size (.int .i64 A) (.int .i64 B) (.int .i64 k) (.int .i64 v) (w3.alloc (.cells #[.int .i64 X, .int .i64 Y] 34)) := (by assumption);  generalize w3.alloc (.cells #[.int .i64 X, .int .i64 Y] 34) = W2 at hH hB ⊢; generalize w3.heap.size = r at hB hn3 ⊢; have hlt := hn3)
    | (have hB := Bx.set hQ3 (.int .i64 X) (.int .i64 Y); have hH : S4 w w.heap.size (.int .i64 A) (.int .i64 B) (.int .i64 k) (.int .i64 v) ((w3.setCell ⟨W.heap.size, 0, none⟩ (.int .i64 X)).setCell ⟨W.heap.size, 1, none⟩ (.int .i64 Y)) := (by assumption); generalize (w3.setCell ⟨W.heap.size, 0, none⟩ (.int .i64 X)).setCell ⟨W.heap.size, 1, none⟩ (.int .i64 Y) = W2 at hH hB ⊢; have hlt : w.heap.size + 1 < W.heap.size := (by assumption); generalize W.heap.size = r at hB hlt ⊢; clear hQ3)
    | (have hB := Bx.set hQ3 (.int .i64 X) (.int .i64 Y); have hH : S4 w w.heap.size (.int .i64 A) (.int .i64 B) (.int .i64 k) (.int .i64 v) ((w3.setCell ⟨w1.heap.size, 0, none⟩ (.int .i64 X)).setCell ⟨w1.heap.size, 1, none⟩ (.int .i64 Y)) := (by assumption); generalize (w3.setCell ⟨w1.heap.size, 0, none⟩ (.int .i64 X)).setCell ⟨w1.heap.size, 1, none⟩ (.int .i64 Y) = W2 at hH hB ⊢; have hlt : w.heap.size + 1 < w1.heap.size := (by assumption); generalize w1.heap.size = r at hB hlt ⊢; clear hQ3)
    | (have hB := Bx.set hQ3 (.int .i64 X) (.int .i64 Y); have hH : S4 w w.heap.size (.int .i64 A) (.int .i64 B) (.int .i64 k) (.int .i64 v) ((w3.setCell ⟨w2.heap.size, 0, none⟩ (.int .i64 X)).setCell ⟨w2.heap.size, 1, none⟩ (.int .i64 Y)) := (by assumption); generalize (w3.setCell ⟨w2.heap.size, 0, none⟩ (.int .i64 X)).setCell ⟨w2.heap.size, 1, none⟩ (.int .i64 Y) = W2 at hH hB ⊢; have hlt : w.heap.size + 1 < w2.heap.size := (by assumption); generalize w2.heap.size = r at hB hlt ⊢; clear hQ3)
  all_goals
    have hS6 := S6.mk hH hB hlt
    have hm := hB.2.2.2.2
    have hn' := hS6.2.2.2.2.2.2.2.2.2.2.1
    clear hH hB
  all_goals
    obtain ⟨q1, q2, q3, q4, q5, q6, q7, q8, q9, q10, q11, q12, q13⟩ := id hS6
    go_region_held3 (fun w' => w'.cell? ⟨w.heap.size, 0, none⟩ = some (.int .i64 A) ∧ w'.cell? ⟨w.heap.size, 1, none⟩ = some (.int .i64 B) ∧ w'.cell? ⟨w.heap.size + 1, 0, none⟩ = some (.int .i64 k) ∧ w'.cell? ⟨w.heap.size + 1, 1, none⟩ = some (.int .i64 v) ∧ w'.cell? ⟨r, 0, none⟩ = some (.int .i64 X) ∧ w'.cell? ⟨r, 1, none⟩ = some (.int .i64 Y) ∧ w'.frozen? ⟨r, 0, none⟩ = false ∧ w'.frozen? ⟨r, 1, none⟩ = false ∧ r < w'.heap.size ∧ w.heap.size + 1 < r ∧ w.heap.size + 1 < w'.heap.size ∧ w.heap.size ≤ w.heap.size ∧ Below w.heap.size w w')
      (first | assumption | (exact S6.drew hS6) | (exact S6.alloc (by assumption) _) | (exact S6.re (by assumption) (by assumption) (by assumption)) | (exact S6.below (by assumption) (by assumption)) | (exact S6.set (by assumption) (by first | assumption | (simp; omega) | omega) _ _))
    (first
      | (go_at_call 17; refine (c_toCurve _ _ _).mono ?_; rintro e w1 ⟨rfl, hb1⟩; have hn1 : w.heap.size + 1 < w1.heap.size := (by have := hb1.size; first | omega | (simp at this; omega)); have hm1 : r < w1.heap.size := (by have := hb1.size; first | omega | (simp at this; omega)); (try first | have hq1 := Bx.newD hb1 | have hq1 := Bx.new hb1); (try have hq1 := Bx.below (by assumption) hb1); (try (have hQ1 := hq1; obtain ⟨qa1, qb1, qc1, qd1, qe1⟩ := hq1)))
      | (go_at_call 18; refine (c_toStep _ _ _).mono ?_; rintro e w2 ⟨rfl, hb2⟩; have hn2 : w.heap.size + 1 < w2.heap.size := (by have := hb2.size; first | omega | (simp at this; omega)); have hm2 : r < w2.heap.size := (by have := hb2.size; first | omega | (simp at this; omega)); (try first | have hq2 := Bx.newD hb2 | have hq2 := Bx.new hb2); (try have hq2 := Bx.below (by assumption) hb2); (try (have hQ2 := hq2; obtain ⟨qa2, qb2, qc2, qd2, qe2⟩ := hq2)))
      | (go_at_call 19; refine (H2.out _).mono ?_; rintro e w3 ⟨rfl, hb3⟩; have hn3 : w.heap.size + 1 < w3.heap.size := (by have := hb3.size; first | omega | (simp at this; omega)); have hm3 : r < w3.heap.size := (by have := hb3.size; first | omega | (simp at this; omega)); (try first | have hq3 := Bx.newD hb3 | have hq3 := Bx.new hb3); (try have hq3 := Bx.below (by assumption) hb3); (try (have hQ3 := hq3; obtain ⟨qa3, qb3, qc3, qd3, qe3⟩ := hq3))))
    all_goals
      go_wp2_with fail
      (go_at_call 20; refine (c_eqCurve _ _ _ _ _).mono ?_; rintro e w5 ⟨rfl, hb5⟩; obtain ⟨hc5, hf5⟩ := bcell hb5; have hz5 := hb5.size; (try simp only [World.size_alloc] at hz5); (try (have hy5 : w.heap.size < w5.heap.size := by omega)); (try (have hx5 := Nat.lt_of_succ_le hz5)); (try (have hv5 := Nat.lt_of_succ_le (Nat.le_of_lt hx5))); (try (have hy5_1 : w1.heap.size < w5.heap.size := by omega)); (try (have hy5_2 : w2.heap.size < w5.heap.size := by omega)); (try (have hy5_3 : w3.heap.size < w5.heap.size := by omega)); (try (have hy5_4 : w4.heap.size < w5.heap.size := by omega)))
      go_wp2
      go_ret
      have hL : Below w.heap.size w _ := S6.bel (r := r) (a := .int .i64 A) (b := .int .i64 B) (c := .int .i64 k) (d := .int .i64 v) (x := .int .i64 X) (y := .int .i64 Y) (n := w.heap.size) (by assumption)
      exact ⟨by simp, below_step hb5 hL.size hL⟩
end Go.Proofs.Ytmahgnmacakfnaa
