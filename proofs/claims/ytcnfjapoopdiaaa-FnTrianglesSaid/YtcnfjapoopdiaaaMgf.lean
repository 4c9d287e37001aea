/- Several texts joined: Sqa. -/
import Derived.Test.YtcnfjapoopdiaaaIsLaw
import Derived.Test.YtcnfjapoopdiaaaChain
import Derived.BigRegion
/- Sqa -/
namespace Go.Proofs.Ytcnfjapoopdiaaa
open Go.RowKit

def fr3 (a b c d e f : Int) (o : Bool) : Value := .tuple #[.agg #[.int .i64 a, .int .i64 b], .agg #[.int .i64 c, .int .i64 d], .agg #[.int .i64 e, .int .i64 f], .bool o]
def fr3P (w : World) (a b c d e f : Int) (o : Bool) (e' : Ending) (w' : World) : Prop := e' = .returned (fr3 (if o then a else 0) (if o then b else 0) (if o then c else 0) (if o then d else 0) (if o then e else 0) (if o then f else 0) o) ∧ Below w.heap.size w w'
theorem fr3P_no {w w' : World} {a b c d e f : Int} {o : Bool} (h : o = false) (hb : Below w.heap.size w w') : fr3P w a b c d e f o (.returned (fr3 0 0 0 0 0 0 false)) w' := by rw [h]; exact ⟨rfl, hb⟩
theorem fr3P_yes {w w' : World} {a b c d e f : Int} {o : Bool} (h : o = true) (hb : Below w.heap.size w w') : fr3P w a b c d e f o (.returned (fr3 a b c d e f true)) w' := by rw [h]; exact ⟨rfl, hb⟩
/-- the sides' block and three result blocks -/
theorem box4s (w : World) (p q r s t u : Int) :
    Blk w.heap.size #[.int .i64 p, .int .i64 q, .int .i64 r, .int .i64 s, .int .i64 t, .int .i64 u] 27 ((((w.alloc (.cells #[.int .i64 p, .int .i64 q, .int .i64 r, .int .i64 s, .int .i64 t, .int .i64 u] 27)).alloc (.cells #[.int .i64 0, .int .i64 0] 25)).alloc (.cells #[.int .i64 0, .int .i64 0] 25)).alloc (.cells #[.int .i64 0, .int .i64 0] 25)) ∧ Blk (w.heap.size + 1) #[.int .i64 0, .int .i64 0] 25 ((((w.alloc (.cells #[.int .i64 p, .int .i64 q, .int .i64 r, .int .i64 s, .int .i64 t, .int .i64 u] 27)).alloc (.cells #[.int .i64 0, .int .i64 0] 25)).alloc (.cells #[.int .i64 0, .int .i64 0] 25)).alloc (.cells #[.int .i64 0, .int .i64 0] 25)) ∧ Blk (w.heap.size + 1 + 1) #[.int .i64 0, .int .i64 0] 25 ((((w.alloc (.cells #[.int .i64 p, .int .i64 q, .int .i64 r, .int .i64 s, .int .i64 t, .int .i64 u] 27)).alloc (.cells #[.int .i64 0, .int .i64 0] 25)).alloc (.cells #[.int .i64 0, .int .i64 0] 25)).alloc (.cells #[.int .i64 0, .int .i64 0] 25)) ∧ Blk (w.heap.size + 1 + 1 + 1) #[.int .i64 0, .int .i64 0] 25 ((((w.alloc (.cells #[.int .i64 p, .int .i64 q, .int .i64 r, .int .i64 s, .int .i64 t, .int .i64 u] 27)).alloc (.cells #[.int .i64 0, .int .i64 0] 25)).alloc (.cells #[.int .i64 0, .int .i64 0] 25)).alloc (.cells #[.int .i64 0, .int .i64 0] 25)) ∧ Below w.heap.size w ((((w.alloc (.cells #[.int .i64 p, .int .i64 q, .int .i64 r, .int .i64 s, .int .i64 t, .int .i64 u] 27)).alloc (.cells #[.int .i64 0, .int .i64 0] 25)).alloc (.cells #[.int .i64 0, .int .i64 0] 25)).alloc (.cells #[.int .i64 0, .int .i64 0] 25)) := by
  refine ⟨(((Blk.new w _ _).alloc _).alloc _).alloc _, ?_, ?_, ?_, by (repeat' (first | (with_reducible exact Below.refl _ _) | (with_reducible refine below_step (by assumption) ?_ ?_) | (with_reducible refine Below.alloc ?_ ?_ _) | (with_reducible refine Below.setCell ?_ ?_ _) | (with_reducible refine below_drewN ?_ _) | (with_reducible refine Below.drew ?_) | omega | (simp; omega) | (simp; done)))⟩
  · have := ((Blk.new (w.alloc (.cells #[.int .i64 p, .int .i64 q, .int .i64 r, .int .i64 s, .int .i64 t, .int .i64 u] 27)) #[.int .i64 0, .int .i64 0] 25).alloc (.cells #[.int .i64 0, .int .i64 0] 25)).alloc (.cells #[.int .i64 0, .int .i64 0] 25)
    simpa using this
  · have := (Blk.new ((w.alloc (.cells #[.int .i64 p, .int .i64 q, .int .i64 r, .int .i64 s, .int .i64 t, .int .i64 u] 27)).alloc (.cells #[.int .i64 0, .int .i64 0] 25)) #[.int .i64 0, .int .i64 0] 25).alloc (.cells #[.int .i64 0, .int .i64 0] 25)
    simpa using this
  · have := Blk.new (((w.alloc (.cells #[.int .i64 p, .int .i64 q, .int .i64 r, .int .i64 s, .int .i64 t, .int .i64 u] 27)).alloc (.cells #[.int .i64 0, .int .i64 0] 25)).alloc (.cells #[.int .i64 0, .int .i64 0] 25)) #[.int .i64 0, .int .i64 0] 25
    simpa using this
set_option maxHeartbeats 8000000 in
set_option maxRecDepth 100000 in
theorem c_iSquares_of (n p q r s t u x1 y1 x2 y2 x3 y3 x4 y4 x5 y5 : Int) (o1 o2 o3 o4 o5 : Bool) (hA : areaB n = true) (hT : triOk p q r s t u = true)
    (HI : Hid (∀ w : World, Calls Try.prog 45 #[.int .i64 n, .agg #[.int .i64 p, .int .i64 q, .int .i64 r, .int .i64 s, .int .i64 t, .int .i64 u]] w fun e w' => e = .returned (.tuple #[.bool true, .bool true]) ∧ Below w.heap.size w w'))
    (H0 : Hid (Kq 36 [.int .i64 2] true 2 1 true))
    (H1 : Hid (Kq 38 [.agg #[.int .i64 r, .int .i64 s], .agg #[.int .i64 p, .int .i64 q]] true x1 y1 o1))
    (H2 : Hid (Kq 39 [.agg #[.int .i64 x1, .int .i64 y1], .agg #[.int .i64 2, .int .i64 1]] o1 x2 y2 o2))
    (H3 : Hid (Kq 39 [.agg #[.int .i64 t, .int .i64 u], .agg #[.int .i64 2, .int .i64 1]] o2 x3 y3 o3))
    (H4 : Hid (Kq 40 [.agg #[.int .i64 p, .int .i64 q], .agg #[.int .i64 r, .int .i64 s]] o3 x4 y4 o4))
    (H5 : Hid (Kq 39 [.agg #[.int .i64 x4, .int .i64 y4], .agg #[.int .i64 2, .int .i64 1]] o4 x5 y5 o5)) (w : World) :
    Calls Try.prog 14 #[.int .i64 n, .agg #[.int .i64 p, .int .i64 q, .int .i64 r, .int .i64 s, .int .i64 t, .int .i64 u]] w (fr3P w x2 y2 x3 y3 x5 y5 o5) := by
  obtain ⟨kT, kA, kB, kC, hB⟩ := box4s w p q r s t u
  have hs0 := hB.size
  have HG : Hid (∀ w, _) := fun w => c_isArea n w
  rw [hA] at HG
  have HF : Hid (∀ w, _) := fun w => c_triangleFits p q r s t u w
  rw [hT] at HF
  clear hA hT
  go_enter Try.func14, Try.ntmps14
  go_wp2_with fail
  generalize (((w.alloc _).alloc _).alloc _).alloc _ = W0 at *
  refine (HG.out _).mono ?_
  rintro e w1 ⟨rfl, hb1⟩
  replace kT := kT.next hb1
  replace kA := kA.next hb1
  replace kB := kB.next hb1
  replace kC := kC.next hb1
  replace hB := below_step hb1 hs0 hB
  have hs1 := hB.size
  have kT0 : (w1).cell? ⟨w.heap.size, 0, none⟩ = some (.int .i64 p) := kT.cell 0; have kT1 : (w1).cell? ⟨w.heap.size, 1, none⟩ = some (.int .i64 q) := kT.cell 1; have kT2 : (w1).cell? ⟨w.heap.size, 2, none⟩ = some (.int .i64 r) := kT.cell 2; have kT3 : (w1).cell? ⟨w.heap.size, 3, none⟩ = some (.int .i64 s) := kT.cell 3; have kT4 : (w1).cell? ⟨w.heap.size, 4, none⟩ = some (.int .i64 t) := kT.cell 4; have kT5 : (w1).cell? ⟨w.heap.size, 5, none⟩ = some (.int .i64 u) := kT.cell 5; have kTl : w.heap.size < (w1).heap.size := kT.lt
  go_wp2_with fail
  refine (HF.out _).mono ?_
  rintro e w2 ⟨rfl, hb2⟩
  clear kT0 kT1 kT2 kT3 kT4 kT5 kTl hs0 hb1
  replace kT := kT.next hb2
  replace kA := kA.next hb2
  replace kB := kB.next hb2
  replace kC := kC.next hb2
  replace hB := below_step hb2 hs1 hB
  have hs2 := hB.size
  have kT0 : (w2).cell? ⟨w.heap.size, 0, none⟩ = some (.int .i64 p) := kT.cell 0; have kT1 : (w2).cell? ⟨w.heap.size, 1, none⟩ = some (.int .i64 q) := kT.cell 1; have kT2 : (w2).cell? ⟨w.heap.size, 2, none⟩ = some (.int .i64 r) := kT.cell 2; have kT3 : (w2).cell? ⟨w.heap.size, 3, none⟩ = some (.int .i64 s) := kT.cell 3; have kT4 : (w2).cell? ⟨w.heap.size, 4, none⟩ = some (.int .i64 t) := kT.cell 4; have kT5 : (w2).cell? ⟨w.heap.size, 5, none⟩ = some (.int .i64 u) := kT.cell 5; have kTl : w.heap.size < (w2).heap.size := kT.lt
  go_wp2_with fail
  refine (HI.out _).mono ?_
  rintro e w3 ⟨rfl, hb3⟩
  clear kT0 kT1 kT2 kT3 kT4 kT5 kTl hs1 hb2
  replace kT := kT.next hb3
  replace kA := kA.next hb3
  replace kB := kB.next hb3
  replace kC := kC.next hb3
  replace hB := below_step hb3 hs2 hB
  have hs3 := hB.size
  clear hs2 hb3
  have kc : CB w3.heap.size true (w3.alloc (.cells #[.bool true] 63)) := ⟨by simp [go_sem], by simp [go_sem], by simp⟩
  replace kT := kT.alloc (.cells #[.bool true] 63)
  replace kA := kA.alloc (.cells #[.bool true] 63)
  replace kB := kB.alloc (.cells #[.bool true] 63)
  replace kC := kC.alloc (.cells #[.bool true] 63)
  have hB4 : Below w.heap.size w (w3.alloc (.cells #[.bool true] 63)) := by (repeat' (first | (with_reducible exact Below.refl _ _) | (with_reducible refine below_step (by assumption) ?_ ?_) | (with_reducible refine Below.alloc ?_ ?_ _) | (with_reducible refine Below.setCell ?_ ?_ _) | (with_reducible refine below_drewN ?_ _) | (with_reducible refine Below.drew ?_) | omega | (simp; omega) | (simp; done)))
  have hcc : w.heap.size + 1 + 1 + 1 < w3.heap.size := by have := kC.lt; simp at this; have h9 : w.heap.size + 1 + 1 + 1 ≠ w3.heap.size := fun e => by have := kc.1; rw [← e] at this; rw [kC.cell 0] at this; simp at this
                                                          omega
  go_wp2_with fail
  generalize w3.alloc _ = W4 at *
  generalize w3.heap.size = c at *
  refine (H0.out c _ kc).mono ?_
  rintro e w5 ⟨rfl, hO5, kc5⟩
  have nT : w.heap.size ∉ [c] := by simp; omega
  have nA : w.heap.size + 1 ∉ [c] := by simp; omega
  have nB : w.heap.size + 1 + 1 ∉ [c] := by simp; omega
  have nC : w.heap.size + 1 + 1 + 1 ∉ [c] := by simp; omega
  replace kT := (kT.over hO5 nT).alloc (.cells #[.int .i64 2, .int .i64 1] 25)
  replace kA := (kA.over hO5 nA).alloc (.cells #[.int .i64 2, .int .i64 1] 25)
  replace kB := (kB.over hO5 nB).alloc (.cells #[.int .i64 2, .int .i64 1] 25)
  replace kC := (kC.over hO5 nC).alloc (.cells #[.int .i64 2, .int .i64 1] 25)
  have kD := Blk.new w5 #[.int .i64 2, .int .i64 1] 25
  have kc6 := CB.closed c true _ _ kc5 ((Below.refl w5.heap.size w5).alloc (Nat.le_refl _) (.cells #[.int .i64 2, .int .i64 1] 25))
  have hB5 : Below w.heap.size w w5 := hO5.belowGe hB4 hB4.size (by simp; omega)
  have hB6 := hB5.alloc hB5.size (.cells #[.int .i64 2, .int .i64 1] 25)
  have hcs := kc5.2.2
  go_wp2
  generalize w5.alloc _ = W at *
  generalize w5.heap.size = d at *
  have hs6 := hB6.size
  have nD : d ∉ [c] := by simp; omega
  clear hO5 kc5 hB5 hB4 hB hs3 kc
  have kT0 : (W).cell? ⟨w.heap.size, 0, none⟩ = some (.int .i64 p) := kT.cell 0; have kT1 : (W).cell? ⟨w.heap.size, 1, none⟩ = some (.int .i64 q) := kT.cell 1; have kT2 : (W).cell? ⟨w.heap.size, 2, none⟩ = some (.int .i64 r) := kT.cell 2; have kT3 : (W).cell? ⟨w.heap.size, 3, none⟩ = some (.int .i64 s) := kT.cell 3; have kT4 : (W).cell? ⟨w.heap.size, 4, none⟩ = some (.int .i64 t) := kT.cell 4; have kT5 : (W).cell? ⟨w.heap.size, 5, none⟩ = some (.int .i64 u) := kT.cell 5; have kTl : w.heap.size < (W).heap.size := kT.lt
  have kD0 : (W).cell? ⟨d, 0, none⟩ = some (.int .i64 2) := kD.cell 0; have kD1 : (W).cell? ⟨d, 1, none⟩ = some (.int .i64 1) := kD.cell 1; have kDl : d < (W).heap.size := kD.lt
  have lc := kc6.2.2
  have hcw : w.heap.size ≤ c := by omega
  apply region_join3 (fun r12 r13 r14 Wz => Over [c] W Wz ∧ (CB c o5) Wz ∧ W.heap.size ≤ r12 ∧ W.heap.size ≤ r13 ∧ W.heap.size ≤ r14 ∧ r13 ≠ r12 ∧ r14 ≠ r12 ∧ r14 ≠ r13 ∧ Blk r12 #[.int .i64 x2, .int .i64 y2] 25 Wz ∧ Blk r13 #[.int .i64 x3, .int .i64 y3] 25 Wz ∧ Blk r14 #[.int .i64 x5, .int .i64 y5] 25 Wz)
  · intro hcont
    refine wp_region_cls [c] (fun _ => false) (fun _ => True) (KD (CB c true) []) (by kernel_rfl) ⟨(CB.closed _ _) _ _ (kc6) ((Below.refl _ _).drew), MemL.nil _⟩ ?_
    apply wpAnyF_hd ⟨W, Over.refl _ _, kc6, MemL.nil _⟩ [true, true, true, true, true, true, false, true, false, true, true, true, true, false, true, true, true, true, true, true, false, true] 11 (KD.closed (CB.closed _ _) _) (fun _ _ => trivial) (by kernel_rfl) (by kernel_rfl) (by kernel_rfl) (by kernel_rfl) (by simp)
    · intro E hE hEN hEn; (repeat (first | (refine wpHL_take ?_; go_big_quiet_step (fail); refine wpQuiet_nil ?_) | refine wpHL_skip ?_)); exact wpHL_end rfl
    refine dag_start ?_
    intro F hto hfr
    generalize hact : Act.mk _ _ = act0
    have n0 : ∀ (r12 : Nat) (r13 : Nat) (r14 : Nat) (hr12 : W.heap.size ≤ r12) (hr13 : W.heap.size ≤ r13) (hr14 : W.heap.size ≤ r14) (hx13_12 : r13 ≠ r12) (hx14_12 : r14 ≠ r12) (hx14_13 : r14 ≠ r13), F 3 #[true, true, true, true, true, true, true, true, true, true, true, true, true, true, true, true, true, true, true, true, true, true, true, true, true, true, false, false, false] ((((((((act0.put (some 51) (.agg #[.int .i64 x1, .int .i64 y1])).put (some 53) (.agg #[.int .i64 x2, .int .i64 y2])).put (some 58) (.agg #[.int .i64 x3, .int .i64 y3])).put (some 65) (.agg #[.int .i64 x4, .int .i64 y4])).put (some 67) (.agg #[.int .i64 x5, .int .i64 y5])).put (some 12) (.pointer (some ⟨r12, 0, none⟩))).put (some 13) (.pointer (some ⟨r13, 0, none⟩))).put (some 14) (.pointer (some ⟨r14, 0, none⟩))) (KD (CB c o5) [(r12, #[.int .i64 0, .int .i64 0], 25), (r13, #[.int .i64 0, .int .i64 0], 25), (r14, #[.int .i64 0, .int .i64 0], 25)]) := by
      intro r12 r13 r14 hr12 hr13 hr14 hx13_12 hx14_12 hx14_13
      refine hto _ _ _ _ ?_
      subst hact
      (try simp only [Act.put, List.setIfInBounds_toArray, List.set_cons_succ, List.set_cons_zero])
      refine wpAnyF_ready [26] 2 (by kernel_rfl) (by kernel_rfl) (by simp) (AllF.cons ?_ AllF.nil)
      refine stepK_store (v := .agg #[.int .i64 x2, .int .i64 y2]) [] [(r13, #[.int .i64 0, .int .i64 0], 25), (r14, #[.int .i64 0, .int .i64 0], 25)] (by rfl) (by rfl) (by rfl) (by rfl) (by rfl) (by rfl) (fun _ => by go_simp) (by rfl) (by simp [Value.cells, one1]) (.inl hr12) (CB.closed _ _) (fun _ _ h ho => CB.over h ho (by omega)) (by simp; omega) (fun hne => ?_)
      try simp only [Value.cells]
      (try simp only [List.setIfInBounds_toArray, List.set_cons_succ, List.set_cons_zero])
      (try simp only [List.nil_append])
      refine wpAnyF_ready [27] 1 (by kernel_rfl) (by kernel_rfl) (by simp) (AllF.cons ?_ AllF.nil)
      refine stepK_store (v := .agg #[.int .i64 x3, .int .i64 y3]) [(r12, #[.int .i64 x2, .int .i64 y2], 25)] [(r14, #[.int .i64 0, .int .i64 0], 25)] (by rfl) (by rfl) (by rfl) (by rfl) (by rfl) (by rfl) (fun _ => by go_simp) (by rfl) (by simp [Value.cells, one1]) (.inl hr13) (CB.closed _ _) (fun _ _ h ho => CB.over h ho (by omega)) (by simp; omega) (fun hne => ?_)
      try simp only [Value.cells]
      (try simp only [List.setIfInBounds_toArray, List.set_cons_succ, List.set_cons_zero])
      (try simp only [List.nil_append, List.cons_append])
      refine wpAnyF_ready [28] 0 (by kernel_rfl) (by kernel_rfl) (by simp) (AllF.cons ?_ AllF.nil)
      refine stepK_store (v := .agg #[.int .i64 x5, .int .i64 y5]) [(r12, #[.int .i64 x2, .int .i64 y2], 25), (r13, #[.int .i64 x3, .int .i64 y3], 25)] [] (by rfl) (by rfl) (by rfl) (by rfl) (by rfl) (by rfl) (fun _ => by go_simp) (by rfl) (by simp [Value.cells, one1]) (.inl hr14) (CB.closed _ _) (fun _ _ h ho => CB.over h ho (by omega)) (by simp; omega) (fun hne => ?_)
      try simp only [Value.cells]
      (try simp only [List.setIfInBounds_toArray, List.set_cons_succ, List.set_cons_zero])
      (try simp only [List.nil_append, List.cons_append])
      refine wpAnyF_done (by kernel_rfl) (fun Wz hOz hDz => ?_) _
      exact hcont r12 r13 r14 Wz ⟨hOz, hDz.1, (by omega), (by omega), (by omega), (by omega), (by omega), (by omega), hDz.2.head, hDz.2.tail.head, hDz.2.tail.tail.head⟩
    have n1 : ∀ (r12 : Nat) (r13 : Nat) (hr12 : W.heap.size ≤ r12) (hr13 : W.heap.size ≤ r13) (hx13_12 : r13 ≠ r12), F 4 #[true, true, true, true, true, true, true, true, true, true, true, true, true, true, true, true, true, true, true, true, true, true, true, true, true, false, false, false, false] (((((((act0.put (some 51) (.agg #[.int .i64 x1, .int .i64 y1])).put (some 53) (.agg #[.int .i64 x2, .int .i64 y2])).put (some 58) (.agg #[.int .i64 x3, .int .i64 y3])).put (some 65) (.agg #[.int .i64 x4, .int .i64 y4])).put (some 67) (.agg #[.int .i64 x5, .int .i64 y5])).put (some 12) (.pointer (some ⟨r12, 0, none⟩))).put (some 13) (.pointer (some ⟨r13, 0, none⟩))) (KD (CB c o5) [(r12, #[.int .i64 0, .int .i64 0], 25), (r13, #[.int .i64 0, .int .i64 0], 25)]) := by
      intro r12 r13 hr12 hr13 hx13_12
      refine hto _ _ _ _ ?_
      subst hact
      (try simp only [Act.put, List.setIfInBounds_toArray, List.set_cons_succ, List.set_cons_zero])
      refine wpAnyF_ready [25] 3 (by kernel_rfl) (by kernel_rfl) (by simp) ?_
      refine AllF.cons ?_ ?_
      · refine stepK_alloc (zs := #[.int .i64 0, .int .i64 0]) (T := 25) (by rfl) (by rfl) (by rfl) (fun _ => by go_simp) (CB.closed _ _) (fun r14 hr14 hl14 hne => ?_)
        simp at hl14
        (try simp only [Act.put, List.setIfInBounds_toArray, List.set_cons_succ, List.set_cons_zero])
        have hn := hfr _ _ _ _ (n0 r12 r13 r14 (by omega) (by omega) (by omega) (by omega) (by omega) (by omega))
        (try simp only [Act.put, List.setIfInBounds_toArray, List.set_cons_succ, List.set_cons_zero] at hn)
        exact wpAnyF_weaken (KD.perm (by simp)) hn
      exact AllF.nil
    have n2 : ∀ (r12 : Nat) (r14 : Nat) (hr12 : W.heap.size ≤ r12) (hr14 : W.heap.size ≤ r14) (hx14_12 : r14 ≠ r12), F 4 #[true, true, true, true, true, true, true, true, true, true, true, true, true, true, true, true, true, true, true, true, true, true, true, true, false, true, false, false, false] (((((((act0.put (some 51) (.agg #[.int .i64 x1, .int .i64 y1])).put (some 53) (.agg #[.int .i64 x2, .int .i64 y2])).put (some 58) (.agg #[.int .i64 x3, .int .i64 y3])).put (some 65) (.agg #[.int .i64 x4, .int .i64 y4])).put (some 67) (.agg #[.int .i64 x5, .int .i64 y5])).put (some 12) (.pointer (some ⟨r12, 0, none⟩))).put (some 14) (.pointer (some ⟨r14, 0, none⟩))) (KD (CB c o5) [(r12, #[.int .i64 0, .int .i64 0], 25), (r14, #[.int .i64 0, .int .i64 0], 25)]) := by
      intro r12 r14 hr12 hr14 hx14_12
      refine hto _ _ _ _ ?_
      subst hact
      (try simp only [Act.put, List.setIfInBounds_toArray, List.set_cons_succ, List.set_cons_zero])
      refine wpAnyF_ready [24] 3 (by kernel_rfl) (by kernel_rfl) (by simp) ?_
      refine AllF.cons ?_ ?_
      · refine stepK_alloc (zs := #[.int .i64 0, .int .i64 0]) (T := 25) (by rfl) (by rfl) (by rfl) (fun _ => by go_simp) (CB.closed _ _) (fun r13 hr13 hl13 hne => ?_)
        simp at hl13
        (try simp only [Act.put, List.setIfInBounds_toArray, List.set_cons_succ, List.set_cons_zero])
        have hn := hfr _ _ _ _ (n0 r12 r13 r14 (by omega) (by omega) (by omega) (by omega) (by omega) (by omega))
        (try simp only [Act.put, List.setIfInBounds_toArray, List.set_cons_succ, List.set_cons_zero] at hn)
        exact wpAnyF_weaken (KD.perm (by simp)) hn
      exact AllF.nil
    have n3 : ∀ (r12 : Nat) (hr12 : W.heap.size ≤ r12), F 5 #[true, true, true, true, true, true, true, true, true, true, true, true, true, true, true, true, true, true, true, true, true, true, true, true, false, false, false, false, false] ((((((act0.put (some 51) (.agg #[.int .i64 x1, .int .i64 y1])).put (some 53) (.agg #[.int .i64 x2, .int .i64 y2])).put (some 58) (.agg #[.int .i64 x3, .int .i64 y3])).put (some 65) (.agg #[.int .i64 x4, .int .i64 y4])).put (some 67) (.agg #[.int .i64 x5, .int .i64 y5])).put (some 12) (.pointer (some ⟨r12, 0, none⟩))) (KD (CB c o5) [(r12, #[.int .i64 0, .int .i64 0], 25)]) := by
      intro r12 hr12
      refine hto _ _ _ _ ?_
      subst hact
      (try simp only [Act.put, List.setIfInBounds_toArray, List.set_cons_succ, List.set_cons_zero])
      refine wpAnyF_ready [24, 25] 4 (by kernel_rfl) (by kernel_rfl) (by simp) ?_
      refine AllF.cons ?_ ?_
      · refine stepK_alloc (zs := #[.int .i64 0, .int .i64 0]) (T := 25) (by rfl) (by rfl) (by rfl) (fun _ => by go_simp) (CB.closed _ _) (fun r13 hr13 hl13 hne => ?_)
        simp at hl13
        (try simp only [Act.put, List.setIfInBounds_toArray, List.set_cons_succ, List.set_cons_zero])
        have hn := hfr _ _ _ _ (n1 r12 r13 (by omega) (by omega) (by omega))
        (try simp only [Act.put, List.setIfInBounds_toArray, List.set_cons_succ, List.set_cons_zero] at hn)
        exact wpAnyF_weaken (KD.perm (by simp)) hn
      refine AllF.cons ?_ ?_
      · refine stepK_alloc (zs := #[.int .i64 0, .int .i64 0]) (T := 25) (by rfl) (by rfl) (by rfl) (fun _ => by go_simp) (CB.closed _ _) (fun r14 hr14 hl14 hne => ?_)
        simp at hl14
        (try simp only [Act.put, List.setIfInBounds_toArray, List.set_cons_succ, List.set_cons_zero])
        have hn := hfr _ _ _ _ (n2 r12 r14 (by omega) (by omega) (by omega))
        (try simp only [Act.put, List.setIfInBounds_toArray, List.set_cons_succ, List.set_cons_zero] at hn)
        exact wpAnyF_weaken (KD.perm (by simp)) hn
      exact AllF.nil
    have n4 : ∀ (r13 : Nat) (r14 : Nat) (hr13 : W.heap.size ≤ r13) (hr14 : W.heap.size ≤ r14) (hx14_13 : r14 ≠ r13), F 4 #[true, true, true, true, true, true, true, true, true, true, true, true, true, true, true, true, true, true, true, true, true, true, true, false, true, true, false, false, false] (((((((act0.put (some 51) (.agg #[.int .i64 x1, .int .i64 y1])).put (some 53) (.agg #[.int .i64 x2, .int .i64 y2])).put (some 58) (.agg #[.int .i64 x3, .int .i64 y3])).put (some 65) (.agg #[.int .i64 x4, .int .i64 y4])).put (some 67) (.agg #[.int .i64 x5, .int .i64 y5])).put (some 13) (.pointer (some ⟨r13, 0, none⟩))).put (some 14) (.pointer (some ⟨r14, 0, none⟩))) (KD (CB c o5) [(r13, #[.int .i64 0, .int .i64 0], 25), (r14, #[.int .i64 0, .int .i64 0], 25)]) := by
      intro r13 r14 hr13 hr14 hx14_13
      refine hto _ _ _ _ ?_
      subst hact
      (try simp only [Act.put, List.setIfInBounds_toArray, List.set_cons_succ, List.set_cons_zero])
      refine wpAnyF_ready [23] 3 (by kernel_rfl) (by kernel_rfl) (by simp) ?_
      refine AllF.cons ?_ ?_
      · refine stepK_alloc (zs := #[.int .i64 0, .int .i64 0]) (T := 25) (by rfl) (by rfl) (by rfl) (fun _ => by go_simp) (CB.closed _ _) (fun r12 hr12 hl12 hne => ?_)
        simp at hl12
        (try simp only [Act.put, List.setIfInBounds_toArray, List.set_cons_succ, List.set_cons_zero])
        have hn := hfr _ _ _ _ (n0 r12 r13 r14 (by omega) (by omega) (by omega) (by omega) (by omega) (by omega))
        (try simp only [Act.put, List.setIfInBounds_toArray, List.set_cons_succ, List.set_cons_zero] at hn)
        exact wpAnyF_weaken (KD.perm (by simp)) hn
      exact AllF.nil
    have n5 : ∀ (r13 : Nat) (hr13 : W.heap.size ≤ r13), F 5 #[true, true, true, true, true, true, true, true, true, true, true, true, true, true, true, true, true, true, true, true, true, true, true, false, true, false, false, false, false] ((((((act0.put (some 51) (.agg #[.int .i64 x1, .int .i64 y1])).put (some 53) (.agg #[.int .i64 x2, .int .i64 y2])).put (some 58) (.agg #[.int .i64 x3, .int .i64 y3])).put (some 65) (.agg #[.int .i64 x4, .int .i64 y4])).put (some 67) (.agg #[.int .i64 x5, .int .i64 y5])).put (some 13) (.pointer (some ⟨r13, 0, none⟩))) (KD (CB c o5) [(r13, #[.int .i64 0, .int .i64 0], 25)]) := by
      intro r13 hr13
      refine hto _ _ _ _ ?_
      subst hact
      (try simp only [Act.put, List.setIfInBounds_toArray, List.set_cons_succ, List.set_cons_zero])
      refine wpAnyF_ready [23, 25] 4 (by kernel_rfl) (by kernel_rfl) (by simp) ?_
      refine AllF.cons ?_ ?_
      · refine stepK_alloc (zs := #[.int .i64 0, .int .i64 0]) (T := 25) (by rfl) (by rfl) (by rfl) (fun _ => by go_simp) (CB.closed _ _) (fun r12 hr12 hl12 hne => ?_)
        simp at hl12
        (try simp only [Act.put, List.setIfInBounds_toArray, List.set_cons_succ, List.set_cons_zero])
        have hn := hfr _ _ _ _ (n1 r12 r13 (by omega) (by omega) (by omega))
        (try simp only [Act.put, List.setIfInBounds_toArray, List.set_cons_succ, List.set_cons_zero] at hn)
        exact wpAnyF_weaken (KD.perm (by simp)) hn
      refine AllF.cons ?_ ?_
      · refine stepK_alloc (zs := #[.int .i64 0, .int .i64 0]) (T := 25) (by rfl) (by rfl) (by rfl) (fun _ => by go_simp) (CB.closed _ _) (fun r14 hr14 hl14 hne => ?_)
        simp at hl14
        (try simp only [Act.put, List.setIfInBounds_toArray, List.set_cons_succ, List.set_cons_zero])
        have hn := hfr _ _ _ _ (n4 r13 r14 (by omega) (by omega) (by omega))
        (try simp only [Act.put, List.setIfInBounds_toArray, List.set_cons_succ, List.set_cons_zero] at hn)
        exact wpAnyF_weaken (KD.perm (by simp)) hn
      exact AllF.nil
    have n6 : ∀ (r14 : Nat) (hr14 : W.heap.size ≤ r14), F 5 #[true, true, true, true, true, true, true, true, true, true, true, true, true, true, true, true, true, true, true, true, true, true, true, false, false, true, false, false, false] ((((((act0.put (some 51) (.agg #[.int .i64 x1, .int .i64 y1])).put (some 53) (.agg #[.int .i64 x2, .int .i64 y2])).put (some 58) (.agg #[.int .i64 x3, .int .i64 y3])).put (some 65) (.agg #[.int .i64 x4, .int .i64 y4])).put (some 67) (.agg #[.int .i64 x5, .int .i64 y5])).put (some 14) (.pointer (some ⟨r14, 0, none⟩))) (KD (CB c o5) [(r14, #[.int .i64 0, .int .i64 0], 25)]) := by
      intro r14 hr14
      refine hto _ _ _ _ ?_
      subst hact
      (try simp only [Act.put, List.setIfInBounds_toArray, List.set_cons_succ, List.set_cons_zero])
      refine wpAnyF_ready [23, 24] 4 (by kernel_rfl) (by kernel_rfl) (by simp) ?_
      refine AllF.cons ?_ ?_
      · refine stepK_alloc (zs := #[.int .i64 0, .int .i64 0]) (T := 25) (by rfl) (by rfl) (by rfl) (fun _ => by go_simp) (CB.closed _ _) (fun r12 hr12 hl12 hne => ?_)
        simp at hl12
        (try simp only [Act.put, List.setIfInBounds_toArray, List.set_cons_succ, List.set_cons_zero])
        have hn := hfr _ _ _ _ (n2 r12 r14 (by omega) (by omega) (by omega))
        (try simp only [Act.put, List.setIfInBounds_toArray, List.set_cons_succ, List.set_cons_zero] at hn)
        exact wpAnyF_weaken (KD.perm (by simp)) hn
      refine AllF.cons ?_ ?_
      · refine stepK_alloc (zs := #[.int .i64 0, .int .i64 0]) (T := 25) (by rfl) (by rfl) (by rfl) (fun _ => by go_simp) (CB.closed _ _) (fun r13 hr13 hl13 hne => ?_)
        simp at hl13
        (try simp only [Act.put, List.setIfInBounds_toArray, List.set_cons_succ, List.set_cons_zero])
        have hn := hfr _ _ _ _ (n4 r13 r14 (by omega) (by omega) (by omega))
        (try simp only [Act.put, List.setIfInBounds_toArray, List.set_cons_succ, List.set_cons_zero] at hn)
        exact wpAnyF_weaken (KD.perm (by simp)) hn
      exact AllF.nil
    have n7 : ∀ (_ : True), F 6 #[true, true, true, true, true, true, true, true, true, true, true, true, true, true, true, true, true, true, true, true, true, true, true, false, false, false, false, false, false] (((((act0.put (some 51) (.agg #[.int .i64 x1, .int .i64 y1])).put (some 53) (.agg #[.int .i64 x2, .int .i64 y2])).put (some 58) (.agg #[.int .i64 x3, .int .i64 y3])).put (some 65) (.agg #[.int .i64 x4, .int .i64 y4])).put (some 67) (.agg #[.int .i64 x5, .int .i64 y5])) (KD (CB c o5) []) := by
      intro _
      refine hto _ _ _ _ ?_
      subst hact
      (try simp only [Act.put, List.setIfInBounds_toArray, List.set_cons_succ, List.set_cons_zero])
      refine wpAnyF_ready [23, 24, 25] 5 (by kernel_rfl) (by kernel_rfl) (by simp) ?_
      refine AllF.cons ?_ ?_
      · refine stepK_alloc (zs := #[.int .i64 0, .int .i64 0]) (T := 25) (by rfl) (by rfl) (by rfl) (fun _ => by go_simp) (CB.closed _ _) (fun r12 hr12 hl12 hne => ?_)
        (try simp only [Act.put, List.setIfInBounds_toArray, List.set_cons_succ, List.set_cons_zero])
        have hn := hfr _ _ _ _ (n3 r12 (by omega))
        (try simp only [Act.put, List.setIfInBounds_toArray, List.set_cons_succ, List.set_cons_zero] at hn)
        exact wpAnyF_weaken (KD.perm (by simp)) hn
      refine AllF.cons ?_ ?_
      · refine stepK_alloc (zs := #[.int .i64 0, .int .i64 0]) (T := 25) (by rfl) (by rfl) (by rfl) (fun _ => by go_simp) (CB.closed _ _) (fun r13 hr13 hl13 hne => ?_)
        (try simp only [Act.put, List.setIfInBounds_toArray, List.set_cons_succ, List.set_cons_zero])
        have hn := hfr _ _ _ _ (n5 r13 (by omega))
        (try simp only [Act.put, List.setIfInBounds_toArray, List.set_cons_succ, List.set_cons_zero] at hn)
        exact wpAnyF_weaken (KD.perm (by simp)) hn
      refine AllF.cons ?_ ?_
      · refine stepK_alloc (zs := #[.int .i64 0, .int .i64 0]) (T := 25) (by rfl) (by rfl) (by rfl) (fun _ => by go_simp) (CB.closed _ _) (fun r14 hr14 hl14 hne => ?_)
        (try simp only [Act.put, List.setIfInBounds_toArray, List.set_cons_succ, List.set_cons_zero])
        have hn := hfr _ _ _ _ (n6 r14 (by omega))
        (try simp only [Act.put, List.setIfInBounds_toArray, List.set_cons_succ, List.set_cons_zero] at hn)
        exact wpAnyF_weaken (KD.perm (by simp)) hn
      exact AllF.nil
    have n8 : ∀ (r12 : Nat) (r13 : Nat) (r14 : Nat) (hr12 : W.heap.size ≤ r12) (hr13 : W.heap.size ≤ r13) (hr14 : W.heap.size ≤ r14) (hx13_12 : r13 ≠ r12) (hx14_12 : r14 ≠ r12) (hx14_13 : r14 ≠ r13), F 4 #[true, true, true, true, true, true, true, true, true, true, true, true, true, true, true, true, true, true, true, true, true, true, false, true, true, true, false, false, false] (((((((act0.put (some 51) (.agg #[.int .i64 x1, .int .i64 y1])).put (some 53) (.agg #[.int .i64 x2, .int .i64 y2])).put (some 58) (.agg #[.int .i64 x3, .int .i64 y3])).put (some 65) (.agg #[.int .i64 x4, .int .i64 y4])).put (some 12) (.pointer (some ⟨r12, 0, none⟩))).put (some 13) (.pointer (some ⟨r13, 0, none⟩))).put (some 14) (.pointer (some ⟨r14, 0, none⟩))) (KD (CB c o4) [(r12, #[.int .i64 0, .int .i64 0], 25), (r13, #[.int .i64 0, .int .i64 0], 25), (r14, #[.int .i64 0, .int .i64 0], 25)]) := by
      intro r12 r13 r14 hr12 hr13 hr14 hx13_12 hx14_12 hx14_13
      refine hto _ _ _ _ ?_
      subst hact
      (try simp only [Act.put, List.setIfInBounds_toArray, List.set_cons_succ, List.set_cons_zero])
      refine wpAnyF_ready [22] 3 (by kernel_rfl) (by kernel_rfl) (by simp) ?_
      refine AllF.cons ?_ ?_
      · refine stepK_call (v := .agg #[.int .i64 x5, .int .i64 y5]) (some 67) (CB c o5) (by rfl) (by rfl) (by rfl) (fun _ => by go_simp) (CB.closed _ _) (by simp; omega) (fun w' hC => H5.out c w' hC) (fun hne => ?_)
        (try simp only [Act.put, List.setIfInBounds_toArray, List.set_cons_succ, List.set_cons_zero])
        have hn := hfr _ _ _ _ (n0 r12 r13 r14 (by omega) (by omega) (by omega) (by omega) (by omega) (by omega))
        (try simp only [Act.put, List.setIfInBounds_toArray, List.set_cons_succ, List.set_cons_zero] at hn)
        exact wpAnyF_weaken (KD.perm (by simp)) hn
      exact AllF.nil
    have n9 : ∀ (r12 : Nat) (r13 : Nat) (hr12 : W.heap.size ≤ r12) (hr13 : W.heap.size ≤ r13) (hx13_12 : r13 ≠ r12), F 5 #[true, true, true, true, true, true, true, true, true, true, true, true, true, true, true, true, true, true, true, true, true, true, false, true, true, false, false, false, false] ((((((act0.put (some 51) (.agg #[.int .i64 x1, .int .i64 y1])).put (some 53) (.agg #[.int .i64 x2, .int .i64 y2])).put (some 58) (.agg #[.int .i64 x3, .int .i64 y3])).put (some 65) (.agg #[.int .i64 x4, .int .i64 y4])).put (some 12) (.pointer (some ⟨r12, 0, none⟩))).put (some 13) (.pointer (some ⟨r13, 0, none⟩))) (KD (CB c o4) [(r12, #[.int .i64 0, .int .i64 0], 25), (r13, #[.int .i64 0, .int .i64 0], 25)]) := by
      intro r12 r13 hr12 hr13 hx13_12
      refine hto _ _ _ _ ?_
      subst hact
      (try simp only [Act.put, List.setIfInBounds_toArray, List.set_cons_succ, List.set_cons_zero])
      refine wpAnyF_ready [22, 25] 4 (by kernel_rfl) (by kernel_rfl) (by simp) ?_
      refine AllF.cons ?_ ?_
      · refine stepK_call (v := .agg #[.int .i64 x5, .int .i64 y5]) (some 67) (CB c o5) (by rfl) (by rfl) (by rfl) (fun _ => by go_simp) (CB.closed _ _) (by simp; omega) (fun w' hC => H5.out c w' hC) (fun hne => ?_)
        (try simp only [Act.put, List.setIfInBounds_toArray, List.set_cons_succ, List.set_cons_zero])
        have hn := hfr _ _ _ _ (n1 r12 r13 (by omega) (by omega) (by omega))
        (try simp only [Act.put, List.setIfInBounds_toArray, List.set_cons_succ, List.set_cons_zero] at hn)
        exact wpAnyF_weaken (KD.perm (by simp)) hn
      refine AllF.cons ?_ ?_
      · refine stepK_alloc (zs := #[.int .i64 0, .int .i64 0]) (T := 25) (by rfl) (by rfl) (by rfl) (fun _ => by go_simp) (CB.closed _ _) (fun r14 hr14 hl14 hne => ?_)
        simp at hl14
        (try simp only [Act.put, List.setIfInBounds_toArray, List.set_cons_succ, List.set_cons_zero])
        have hn := hfr _ _ _ _ (n8 r12 r13 r14 (by omega) (by omega) (by omega) (by omega) (by omega) (by omega))
        (try simp only [Act.put, List.setIfInBounds_toArray, List.set_cons_succ, List.set_cons_zero] at hn)
        exact wpAnyF_weaken (KD.perm (by simp)) hn
      exact AllF.nil
    have n10 : ∀ (r12 : Nat) (r14 : Nat) (hr12 : W.heap.size ≤ r12) (hr14 : W.heap.size ≤ r14) (hx14_12 : r14 ≠ r12), F 5 #[true, true, true, true, true, true, true, true, true, true, true, true, true, true, true, true, true, true, true, true, true, true, false, true, false, true, false, false, false] ((((((act0.put (some 51) (.agg #[.int .i64 x1, .int .i64 y1])).put (some 53) (.agg #[.int .i64 x2, .int .i64 y2])).put (some 58) (.agg #[.int .i64 x3, .int .i64 y3])).put (some 65) (.agg #[.int .i64 x4, .int .i64 y4])).put (some 12) (.pointer (some ⟨r12, 0, none⟩))).put (some 14) (.pointer (some ⟨r14, 0, none⟩))) (KD (CB c o4) [(r12, #[.int .i64 0, .int .i64 0], 25), (r14, #[.int .i64 0, .int .i64 0], 25)]) := by
      intro r12 r14 hr12 hr14 hx14_12
      refine hto _ _ _ _ ?_
      subst hact
      (try simp only [Act.put, List.setIfInBounds_toArray, List.set_cons_succ, List.set_cons_zero])
      refine wpAnyF_ready [22, 24] 4 (by kernel_rfl) (by kernel_rfl) (by simp) ?_
      refine AllF.cons ?_ ?_
      · refine stepK_call (v := .agg #[.int .i64 x5, .int .i64 y5]) (some 67) (CB c o5) (by rfl) (by rfl) (by rfl) (fun _ => by go_simp) (CB.closed _ _) (by simp; omega) (fun w' hC => H5.out c w' hC) (fun hne => ?_)
        (try simp only [Act.put, List.setIfInBounds_toArray, List.set_cons_succ, List.set_cons_zero])
        have hn := hfr _ _ _ _ (n2 r12 r14 (by omega) (by omega) (by omega))
        (try simp only [Act.put, List.setIfInBounds_toArray, List.set_cons_succ, List.set_cons_zero] at hn)
        exact wpAnyF_weaken (KD.perm (by simp)) hn
      refine AllF.cons ?_ ?_
      · refine stepK_alloc (zs := #[.int .i64 0, .int .i64 0]) (T := 25) (by rfl) (by rfl) (by rfl) (fun _ => by go_simp) (CB.closed _ _) (fun r13 hr13 hl13 hne => ?_)
        simp at hl13
        (try simp only [Act.put, List.setIfInBounds_toArray, List.set_cons_succ, List.set_cons_zero])
        have hn := hfr _ _ _ _ (n8 r12 r13 r14 (by omega) (by omega) (by omega) (by omega) (by omega) (by omega))
        (try simp only [Act.put, List.setIfInBounds_toArray, List.set_cons_succ, List.set_cons_zero] at hn)
        exact wpAnyF_weaken (KD.perm (by simp)) hn
      exact AllF.nil
    have n11 : ∀ (r12 : Nat) (hr12 : W.heap.size ≤ r12), F 6 #[true, true, true, true, true, true, true, true, true, true, true, true, true, true, true, true, true, true, true, true, true, true, false, true, false, false, false, false, false] (((((act0.put (some 51) (.agg #[.int .i64 x1, .int .i64 y1])).put (some 53) (.agg #[.int .i64 x2, .int .i64 y2])).put (some 58) (.agg #[.int .i64 x3, .int .i64 y3])).put (some 65) (.agg #[.int .i64 x4, .int .i64 y4])).put (some 12) (.pointer (some ⟨r12, 0, none⟩))) (KD (CB c o4) [(r12, #[.int .i64 0, .int .i64 0], 25)]) := by
      intro r12 hr12
      refine hto _ _ _ _ ?_
      subst hact
      (try simp only [Act.put, List.setIfInBounds_toArray, List.set_cons_succ, List.set_cons_zero])
      refine wpAnyF_ready [22, 24, 25] 5 (by kernel_rfl) (by kernel_rfl) (by simp) ?_
      refine AllF.cons ?_ ?_
      · refine stepK_call (v := .agg #[.int .i64 x5, .int .i64 y5]) (some 67) (CB c o5) (by rfl) (by rfl) (by rfl) (fun _ => by go_simp) (CB.closed _ _) (by simp; omega) (fun w' hC => H5.out c w' hC) (fun hne => ?_)
        (try simp only [Act.put, List.setIfInBounds_toArray, List.set_cons_succ, List.set_cons_zero])
        have hn := hfr _ _ _ _ (n3 r12 (by omega))
        (try simp only [Act.put, List.setIfInBounds_toArray, List.set_cons_succ, List.set_cons_zero] at hn)
        exact wpAnyF_weaken (KD.perm (by simp)) hn
      refine AllF.cons ?_ ?_
      · refine stepK_alloc (zs := #[.int .i64 0, .int .i64 0]) (T := 25) (by rfl) (by rfl) (by rfl) (fun _ => by go_simp) (CB.closed _ _) (fun r13 hr13 hl13 hne => ?_)
        simp at hl13
        (try simp only [Act.put, List.setIfInBounds_toArray, List.set_cons_succ, List.set_cons_zero])
        have hn := hfr _ _ _ _ (n9 r12 r13 (by omega) (by omega) (by omega))
        (try simp only [Act.put, List.setIfInBounds_toArray, List.set_cons_succ, List.set_cons_zero] at hn)
        exact wpAnyF_weaken (KD.perm (by simp)) hn
      refine AllF.cons ?_ ?_
      · refine stepK_alloc (zs := #[.int .i64 0, .int .i64 0]) (T := 25) (by rfl) (by rfl) (by rfl) (fun _ => by go_simp) (CB.closed _ _) (fun r14 hr14 hl14 hne => ?_)
        simp at hl14
        (try simp only [Act.put, List.setIfInBounds_toArray, List.set_cons_succ, List.set_cons_zero])
        have hn := hfr _ _ _ _ (n10 r12 r14 (by omega) (by omega) (by omega))
        (try simp only [Act.put, List.setIfInBounds_toArray, List.set_cons_succ, List.set_cons_zero] at hn)
        exact wpAnyF_weaken (KD.perm (by simp)) hn
      exact AllF.nil
    have n12 : ∀ (r13 : Nat) (r14 : Nat) (hr13 : W.heap.size ≤ r13) (hr14 : W.heap.size ≤ r14) (hx14_13 : r14 ≠ r13), F 5 #[true, true, true, true, true, true, true, true, true, true, true, true, true, true, true, true, true, true, true, true, true, true, false, false, true, true, false, false, false] ((((((act0.put (some 51) (.agg #[.int .i64 x1, .int .i64 y1])).put (some 53) (.agg #[.int .i64 x2, .int .i64 y2])).put (some 58) (.agg #[.int .i64 x3, .int .i64 y3])).put (some 65) (.agg #[.int .i64 x4, .int .i64 y4])).put (some 13) (.pointer (some ⟨r13, 0, none⟩))).put (some 14) (.pointer (some ⟨r14, 0, none⟩))) (KD (CB c o4) [(r13, #[.int .i64 0, .int .i64 0], 25), (r14, #[.int .i64 0, .int .i64 0], 25)]) := by
      intro r13 r14 hr13 hr14 hx14_13
      refine hto _ _ _ _ ?_
      subst hact
      (try simp only [Act.put, List.setIfInBounds_toArray, List.set_cons_succ, List.set_cons_zero])
      refine wpAnyF_ready [22, 23] 4 (by kernel_rfl) (by kernel_rfl) (by simp) ?_
      refine AllF.cons ?_ ?_
      · refine stepK_call (v := .agg #[.int .i64 x5, .int .i64 y5]) (some 67) (CB c o5) (by rfl) (by rfl) (by rfl) (fun _ => by go_simp) (CB.closed _ _) (by simp; omega) (fun w' hC => H5.out c w' hC) (fun hne => ?_)
        (try simp only [Act.put, List.setIfInBounds_toArray, List.set_cons_succ, List.set_cons_zero])
        have hn := hfr _ _ _ _ (n4 r13 r14 (by omega) (by omega) (by omega))
        (try simp only [Act.put, List.setIfInBounds_toArray, List.set_cons_succ, List.set_cons_zero] at hn)
        exact wpAnyF_weaken (KD.perm (by simp)) hn
      refine AllF.cons ?_ ?_
      · refine stepK_alloc (zs := #[.int .i64 0, .int .i64 0]) (T := 25) (by rfl) (by rfl) (by rfl) (fun _ => by go_simp) (CB.closed _ _) (fun r12 hr12 hl12 hne => ?_)
        simp at hl12
        (try simp only [Act.put, List.setIfInBounds_toArray, List.set_cons_succ, List.set_cons_zero])
        have hn := hfr _ _ _ _ (n8 r12 r13 r14 (by omega) (by omega) (by omega) (by omega) (by omega) (by omega))
        (try simp only [Act.put, List.setIfInBounds_toArray, List.set_cons_succ, List.set_cons_zero] at hn)
        exact wpAnyF_weaken (KD.perm (by simp)) hn
      exact AllF.nil
    have n13 : ∀ (r13 : Nat) (hr13 : W.heap.size ≤ r13), F 6 #[true, true, true, true, true, true, true, true, true, true, true, true, true, true, true, true, true, true, true, true, true, true, false, false, true, false, false, false, false] (((((act0.put (some 51) (.agg #[.int .i64 x1, .int .i64 y1])).put (some 53) (.agg #[.int .i64 x2, .int .i64 y2])).put (some 58) (.agg #[.int .i64 x3, .int .i64 y3])).put (some 65) (.agg #[.int .i64 x4, .int .i64 y4])).put (some 13) (.pointer (some ⟨r13, 0, none⟩))) (KD (CB c o4) [(r13, #[.int .i64 0, .int .i64 0], 25)]) := by
      intro r13 hr13
      refine hto _ _ _ _ ?_
      subst hact
      (try simp only [Act.put, List.setIfInBounds_toArray, List.set_cons_succ, List.set_cons_zero])
      refine wpAnyF_ready [22, 23, 25] 5 (by kernel_rfl) (by kernel_rfl) (by simp) ?_
      refine AllF.cons ?_ ?_
      · refine stepK_call (v := .agg #[.int .i64 x5, .int .i64 y5]) (some 67) (CB c o5) (by rfl) (by rfl) (by rfl) (fun _ => by go_simp) (CB.closed _ _) (by simp; omega) (fun w' hC => H5.out c w' hC) (fun hne => ?_)
        (try simp only [Act.put, List.setIfInBounds_toArray, List.set_cons_succ, List.set_cons_zero])
        have hn := hfr _ _ _ _ (n5 r13 (by omega))
        (try simp only [Act.put, List.setIfInBounds_toArray, List.set_cons_succ, List.set_cons_zero] at hn)
        exact wpAnyF_weaken (KD.perm (by simp)) hn
      refine AllF.cons ?_ ?_
      · refine stepK_alloc (zs := #[.int .i64 0, .int .i64 0]) (T := 25) (by rfl) (by rfl) (by rfl) (fun _ => by go_simp) (CB.closed _ _) (fun r12 hr12 hl12 hne => ?_)
        simp at hl12
        (try simp only [Act.put, List.setIfInBounds_toArray, List.set_cons_succ, List.set_cons_zero])
        have hn := hfr _ _ _ _ (n9 r12 r13 (by omega) (by omega) (by omega))
        (try simp only [Act.put, List.setIfInBounds_toArray, List.set_cons_succ, List.set_cons_zero] at hn)
        exact wpAnyF_weaken (KD.perm (by simp)) hn
      refine AllF.cons ?_ ?_
      · refine stepK_alloc (zs := #[.int .i64 0, .int .i64 0]) (T := 25) (by rfl) (by rfl) (by rfl) (fun _ => by go_simp) (CB.closed _ _) (fun r14 hr14 hl14 hne => ?_)
        simp at hl14
        (try simp only [Act.put, List.setIfInBounds_toArray, List.set_cons_succ, List.set_cons_zero])
        have hn := hfr _ _ _ _ (n12 r13 r14 (by omega) (by omega) (by omega))
        (try simp only [Act.put, List.setIfInBounds_toArray, List.set_cons_succ, List.set_cons_zero] at hn)
        exact wpAnyF_weaken (KD.perm (by simp)) hn
      exact AllF.nil
    have n14 : ∀ (r14 : Nat) (hr14 : W.heap.size ≤ r14), F 6 #[true, true, true, true, true, true, true, true, true, true, true, true, true, true, true, true, true, true, true, true, true, true, false, false, false, true, false, false, false] (((((act0.put (some 51) (.agg #[.int .i64 x1, .int .i64 y1])).put (some 53) (.agg #[.int .i64 x2, .int .i64 y2])).put (some 58) (.agg #[.int .i64 x3, .int .i64 y3])).put (some 65) (.agg #[.int .i64 x4, .int .i64 y4])).put (some 14) (.pointer (some ⟨r14, 0, none⟩))) (KD (CB c o4) [(r14, #[.int .i64 0, .int .i64 0], 25)]) := by
      intro r14 hr14
      refine hto _ _ _ _ ?_
      subst hact
      (try simp only [Act.put, List.setIfInBounds_toArray, List.set_cons_succ, List.set_cons_zero])
      refine wpAnyF_ready [22, 23, 24] 5 (by kernel_rfl) (by kernel_rfl) (by simp) ?_
      refine AllF.cons ?_ ?_
      · refine stepK_call (v := .agg #[.int .i64 x5, .int .i64 y5]) (some 67) (CB c o5) (by rfl) (by rfl) (by rfl) (fun _ => by go_simp) (CB.closed _ _) (by simp; omega) (fun w' hC => H5.out c w' hC) (fun hne => ?_)
        (try simp only [Act.put, List.setIfInBounds_toArray, List.set_cons_succ, List.set_cons_zero])
        have hn := hfr _ _ _ _ (n6 r14 (by omega))
        (try simp only [Act.put, List.setIfInBounds_toArray, List.set_cons_succ, List.set_cons_zero] at hn)
        exact wpAnyF_weaken (KD.perm (by simp)) hn
      refine AllF.cons ?_ ?_
      · refine stepK_alloc (zs := #[.int .i64 0, .int .i64 0]) (T := 25) (by rfl) (by rfl) (by rfl) (fun _ => by go_simp) (CB.closed _ _) (fun r12 hr12 hl12 hne => ?_)
        simp at hl12
        (try simp only [Act.put, List.setIfInBounds_toArray, List.set_cons_succ, List.set_cons_zero])
        have hn := hfr _ _ _ _ (n10 r12 r14 (by omega) (by omega) (by omega))
        (try simp only [Act.put, List.setIfInBounds_toArray, List.set_cons_succ, List.set_cons_zero] at hn)
        exact wpAnyF_weaken (KD.perm (by simp)) hn
      refine AllF.cons ?_ ?_
      · refine stepK_alloc (zs := #[.int .i64 0, .int .i64 0]) (T := 25) (by rfl) (by rfl) (by rfl) (fun _ => by go_simp) (CB.closed _ _) (fun r13 hr13 hl13 hne => ?_)
        simp at hl13
        (try simp only [Act.put, List.setIfInBounds_toArray, List.set_cons_succ, List.set_cons_zero])
        have hn := hfr _ _ _ _ (n12 r13 r14 (by omega) (by omega) (by omega))
        (try simp only [Act.put, List.setIfInBounds_toArray, List.set_cons_succ, List.set_cons_zero] at hn)
        exact wpAnyF_weaken (KD.perm (by simp)) hn
      exact AllF.nil
    have n15 : ∀ (_ : True), F 7 #[true, true, true, true, true, true, true, true, true, true, true, true, true, true, true, true, true, true, true, true, true, true, false, false, false, false, false, false, false] ((((act0.put (some 51) (.agg #[.int .i64 x1, .int .i64 y1])).put (some 53) (.agg #[.int .i64 x2, .int .i64 y2])).put (some 58) (.agg #[.int .i64 x3, .int .i64 y3])).put (some 65) (.agg #[.int .i64 x4, .int .i64 y4])) (KD (CB c o4) []) := by
      intro _
      refine hto _ _ _ _ ?_
      subst hact
      (try simp only [Act.put, List.setIfInBounds_toArray, List.set_cons_succ, List.set_cons_zero])
      refine wpAnyF_ready [22, 23, 24, 25] 6 (by kernel_rfl) (by kernel_rfl) (by simp) ?_
      refine AllF.cons ?_ ?_
      · refine stepK_call (v := .agg #[.int .i64 x5, .int .i64 y5]) (some 67) (CB c o5) (by rfl) (by rfl) (by rfl) (fun _ => by go_simp) (CB.closed _ _) (fun x hx => by cases hx) (fun w' hC => H5.out c w' hC) (fun hne => ?_)
        (try simp only [Act.put, List.setIfInBounds_toArray, List.set_cons_succ, List.set_cons_zero])
        have hn := hfr _ _ _ _ (n7 trivial)
        (try simp only [Act.put, List.setIfInBounds_toArray, List.set_cons_succ, List.set_cons_zero] at hn)
        exact wpAnyF_weaken (KD.perm (by simp)) hn
      refine AllF.cons ?_ ?_
      · refine stepK_alloc (zs := #[.int .i64 0, .int .i64 0]) (T := 25) (by rfl) (by rfl) (by rfl) (fun _ => by go_simp) (CB.closed _ _) (fun r12 hr12 hl12 hne => ?_)
        (try simp only [Act.put, List.setIfInBounds_toArray, List.set_cons_succ, List.set_cons_zero])
        have hn := hfr _ _ _ _ (n11 r12 (by omega))
        (try simp only [Act.put, List.setIfInBounds_toArray, List.set_cons_succ, List.set_cons_zero] at hn)
        exact wpAnyF_weaken (KD.perm (by simp)) hn
      refine AllF.cons ?_ ?_
      · refine stepK_alloc (zs := #[.int .i64 0, .int .i64 0]) (T := 25) (by rfl) (by rfl) (by rfl) (fun _ => by go_simp) (CB.closed _ _) (fun r13 hr13 hl13 hne => ?_)
        (try simp only [Act.put, List.setIfInBounds_toArray, List.set_cons_succ, List.set_cons_zero])
        have hn := hfr _ _ _ _ (n13 r13 (by omega))
        (try simp only [Act.put, List.setIfInBounds_toArray, List.set_cons_succ, List.set_cons_zero] at hn)
        exact wpAnyF_weaken (KD.perm (by simp)) hn
      refine AllF.cons ?_ ?_
      · refine stepK_alloc (zs := #[.int .i64 0, .int .i64 0]) (T := 25) (by rfl) (by rfl) (by rfl) (fun _ => by go_simp) (CB.closed _ _) (fun r14 hr14 hl14 hne => ?_)
        (try simp only [Act.put, List.setIfInBounds_toArray, List.set_cons_succ, List.set_cons_zero])
        have hn := hfr _ _ _ _ (n14 r14 (by omega))
        (try simp only [Act.put, List.setIfInBounds_toArray, List.set_cons_succ, List.set_cons_zero] at hn)
        exact wpAnyF_weaken (KD.perm (by simp)) hn
      exact AllF.nil
    have n16 : ∀ (r12 : Nat) (r13 : Nat) (r14 : Nat) (hr12 : W.heap.size ≤ r12) (hr13 : W.heap.size ≤ r13) (hr14 : W.heap.size ≤ r14) (hx13_12 : r13 ≠ r12) (hx14_12 : r14 ≠ r12) (hx14_13 : r14 ≠ r13), F 5 #[true, true, true, true, true, true, true, true, true, true, true, true, true, true, true, true, true, true, true, true, false, true, false, true, true, true, false, false, false] ((((((act0.put (some 51) (.agg #[.int .i64 x1, .int .i64 y1])).put (some 53) (.agg #[.int .i64 x2, .int .i64 y2])).put (some 58) (.agg #[.int .i64 x3, .int .i64 y3])).put (some 12) (.pointer (some ⟨r12, 0, none⟩))).put (some 13) (.pointer (some ⟨r13, 0, none⟩))).put (some 14) (.pointer (some ⟨r14, 0, none⟩))) (KD (CB c o3) [(r12, #[.int .i64 0, .int .i64 0], 25), (r13, #[.int .i64 0, .int .i64 0], 25), (r14, #[.int .i64 0, .int .i64 0], 25)]) := by
      intro r12 r13 r14 hr12 hr13 hr14 hx13_12 hx14_12 hx14_13
      refine hto _ _ _ _ ?_
      subst hact
      (try simp only [Act.put, List.setIfInBounds_toArray, List.set_cons_succ, List.set_cons_zero])
      refine wpAnyF_ready [20] 4 (by kernel_rfl) (by kernel_rfl) (by simp) ?_
      refine AllF.cons ?_ ?_
      · refine stepK_call (v := .agg #[.int .i64 x4, .int .i64 y4]) (some 65) (CB c o4) (by rfl) (by rfl) (by rfl) (fun _ => by go_simp) (CB.closed _ _) (by simp; omega) (fun w' hC => H4.out c w' hC) (fun hne => ?_)
        (try simp only [Act.put, List.setIfInBounds_toArray, List.set_cons_succ, List.set_cons_zero])
        have hn := hfr _ _ _ _ (n8 r12 r13 r14 (by omega) (by omega) (by omega) (by omega) (by omega) (by omega))
        (try simp only [Act.put, List.setIfInBounds_toArray, List.set_cons_succ, List.set_cons_zero] at hn)
        exact wpAnyF_weaken (KD.perm (by simp)) hn
      exact AllF.nil
    have n17 : ∀ (r12 : Nat) (r13 : Nat) (hr12 : W.heap.size ≤ r12) (hr13 : W.heap.size ≤ r13) (hx13_12 : r13 ≠ r12), F 6 #[true, true, true, true, true, true, true, true, true, true, true, true, true, true, true, true, true, true, true, true, false, true, false, true, true, false, false, false, false] (((((act0.put (some 51) (.agg #[.int .i64 x1, .int .i64 y1])).put (some 53) (.agg #[.int .i64 x2, .int .i64 y2])).put (some 58) (.agg #[.int .i64 x3, .int .i64 y3])).put (some 12) (.pointer (some ⟨r12, 0, none⟩))).put (some 13) (.pointer (some ⟨r13, 0, none⟩))) (KD (CB c o3) [(r12, #[.int .i64 0, .int .i64 0], 25), (r13, #[.int .i64 0, .int .i64 0], 25)]) := by
      intro r12 r13 hr12 hr13 hx13_12
      refine hto _ _ _ _ ?_
      subst hact
      (try simp only [Act.put, List.setIfInBounds_toArray, List.set_cons_succ, List.set_cons_zero])
      refine wpAnyF_ready [20, 25] 5 (by kernel_rfl) (by kernel_rfl) (by simp) ?_
      refine AllF.cons ?_ ?_
      · refine stepK_call (v := .agg #[.int .i64 x4, .int .i64 y4]) (some 65) (CB c o4) (by rfl) (by rfl) (by rfl) (fun _ => by go_simp) (CB.closed _ _) (by simp; omega) (fun w' hC => H4.out c w' hC) (fun hne => ?_)
        (try simp only [Act.put, List.setIfInBounds_toArray, List.set_cons_succ, List.set_cons_zero])
        have hn := hfr _ _ _ _ (n9 r12 r13 (by omega) (by omega) (by omega))
        (try simp only [Act.put, List.setIfInBounds_toArray, List.set_cons_succ, List.set_cons_zero] at hn)
        exact wpAnyF_weaken (KD.perm (by simp)) hn
      refine AllF.cons ?_ ?_
      · refine stepK_alloc (zs := #[.int .i64 0, .int .i64 0]) (T := 25) (by rfl) (by rfl) (by rfl) (fun _ => by go_simp) (CB.closed _ _) (fun r14 hr14 hl14 hne => ?_)
        simp at hl14
        (try simp only [Act.put, List.setIfInBounds_toArray, List.set_cons_succ, List.set_cons_zero])
        have hn := hfr _ _ _ _ (n16 r12 r13 r14 (by omega) (by omega) (by omega) (by omega) (by omega) (by omega))
        (try simp only [Act.put, List.setIfInBounds_toArray, List.set_cons_succ, List.set_cons_zero] at hn)
        exact wpAnyF_weaken (KD.perm (by simp)) hn
      exact AllF.nil
    have n18 : ∀ (r12 : Nat) (r14 : Nat) (hr12 : W.heap.size ≤ r12) (hr14 : W.heap.size ≤ r14) (hx14_12 : r14 ≠ r12), F 6 #[true, true, true, true, true, true, true, true, true, true, true, true, true, true, true, true, true, true, true, true, false, true, false, true, false, true, false, false, false] (((((act0.put (some 51) (.agg #[.int .i64 x1, .int .i64 y1])).put (some 53) (.agg #[.int .i64 x2, .int .i64 y2])).put (some 58) (.agg #[.int .i64 x3, .int .i64 y3])).put (some 12) (.pointer (some ⟨r12, 0, none⟩))).put (some 14) (.pointer (some ⟨r14, 0, none⟩))) (KD (CB c o3) [(r12, #[.int .i64 0, .int .i64 0], 25), (r14, #[.int .i64 0, .int .i64 0], 25)]) := by
      intro r12 r14 hr12 hr14 hx14_12
      refine hto _ _ _ _ ?_
      subst hact
      (try simp only [Act.put, List.setIfInBounds_toArray, List.set_cons_succ, List.set_cons_zero])
      refine wpAnyF_ready [20, 24] 5 (by kernel_rfl) (by kernel_rfl) (by simp) ?_
      refine AllF.cons ?_ ?_
      · refine stepK_call (v := .agg #[.int .i64 x4, .int .i64 y4]) (some 65) (CB c o4) (by rfl) (by rfl) (by rfl) (fun _ => by go_simp) (CB.closed _ _) (by simp; omega) (fun w' hC => H4.out c w' hC) (fun hne => ?_)
        (try simp only [Act.put, List.setIfInBounds_toArray, List.set_cons_succ, List.set_cons_zero])
        have hn := hfr _ _ _ _ (n10 r12 r14 (by omega) (by omega) (by omega))
        (try simp only [Act.put, List.setIfInBounds_toArray, List.set_cons_succ, List.set_cons_zero] at hn)
        exact wpAnyF_weaken (KD.perm (by simp)) hn
      refine AllF.cons ?_ ?_
      · refine stepK_alloc (zs := #[.int .i64 0, .int .i64 0]) (T := 25) (by rfl) (by rfl) (by rfl) (fun _ => by go_simp) (CB.closed _ _) (fun r13 hr13 hl13 hne => ?_)
        simp at hl13
        (try simp only [Act.put, List.setIfInBounds_toArray, List.set_cons_succ, List.set_cons_zero])
        have hn := hfr _ _ _ _ (n16 r12 r13 r14 (by omega) (by omega) (by omega) (by omega) (by omega) (by omega))
        (try simp only [Act.put, List.setIfInBounds_toArray, List.set_cons_succ, List.set_cons_zero] at hn)
        exact wpAnyF_weaken (KD.perm (by simp)) hn
      exact AllF.nil
    have n19 : ∀ (r12 : Nat) (hr12 : W.heap.size ≤ r12), F 7 #[true, true, true, true, true, true, true, true, true, true, true, true, true, true, true, true, true, true, true, true, false, true, false, true, false, false, false, false, false] ((((act0.put (some 51) (.agg #[.int .i64 x1, .int .i64 y1])).put (some 53) (.agg #[.int .i64 x2, .int .i64 y2])).put (some 58) (.agg #[.int .i64 x3, .int .i64 y3])).put (some 12) (.pointer (some ⟨r12, 0, none⟩))) (KD (CB c o3) [(r12, #[.int .i64 0, .int .i64 0], 25)]) := by
      intro r12 hr12
      refine hto _ _ _ _ ?_
      subst hact
      (try simp only [Act.put, List.setIfInBounds_toArray, List.set_cons_succ, List.set_cons_zero])
      refine wpAnyF_ready [20, 24, 25] 6 (by kernel_rfl) (by kernel_rfl) (by simp) ?_
      refine AllF.cons ?_ ?_
      · refine stepK_call (v := .agg #[.int .i64 x4, .int .i64 y4]) (some 65) (CB c o4) (by rfl) (by rfl) (by rfl) (fun _ => by go_simp) (CB.closed _ _) (by simp; omega) (fun w' hC => H4.out c w' hC) (fun hne => ?_)
        (try simp only [Act.put, List.setIfInBounds_toArray, List.set_cons_succ, List.set_cons_zero])
        have hn := hfr _ _ _ _ (n11 r12 (by omega))
        (try simp only [Act.put, List.setIfInBounds_toArray, List.set_cons_succ, List.set_cons_zero] at hn)
        exact wpAnyF_weaken (KD.perm (by simp)) hn
      refine AllF.cons ?_ ?_
      · refine stepK_alloc (zs := #[.int .i64 0, .int .i64 0]) (T := 25) (by rfl) (by rfl) (by rfl) (fun _ => by go_simp) (CB.closed _ _) (fun r13 hr13 hl13 hne => ?_)
        simp at hl13
        (try simp only [Act.put, List.setIfInBounds_toArray, List.set_cons_succ, List.set_cons_zero])
        have hn := hfr _ _ _ _ (n17 r12 r13 (by omega) (by omega) (by omega))
        (try simp only [Act.put, List.setIfInBounds_toArray, List.set_cons_succ, List.set_cons_zero] at hn)
        exact wpAnyF_weaken (KD.perm (by simp)) hn
      refine AllF.cons ?_ ?_
      · refine stepK_alloc (zs := #[.int .i64 0, .int .i64 0]) (T := 25) (by rfl) (by rfl) (by rfl) (fun _ => by go_simp) (CB.closed _ _) (fun r14 hr14 hl14 hne => ?_)
        simp at hl14
        (try simp only [Act.put, List.setIfInBounds_toArray, List.set_cons_succ, List.set_cons_zero])
        have hn := hfr _ _ _ _ (n18 r12 r14 (by omega) (by omega) (by omega))
        (try simp only [Act.put, List.setIfInBounds_toArray, List.set_cons_succ, List.set_cons_zero] at hn)
        exact wpAnyF_weaken (KD.perm (by simp)) hn
      exact AllF.nil
    have n20 : ∀ (r13 : Nat) (r14 : Nat) (hr13 : W.heap.size ≤ r13) (hr14 : W.heap.size ≤ r14) (hx14_13 : r14 ≠ r13), F 6 #[true, true, true, true, true, true, true, true, true, true, true, true, true, true, true, true, true, true, true, true, false, true, false, false, true, true, false, false, false] (((((act0.put (some 51) (.agg #[.int .i64 x1, .int .i64 y1])).put (some 53) (.agg #[.int .i64 x2, .int .i64 y2])).put (some 58) (.agg #[.int .i64 x3, .int .i64 y3])).put (some 13) (.pointer (some ⟨r13, 0, none⟩))).put (some 14) (.pointer (some ⟨r14, 0, none⟩))) (KD (CB c o3) [(r13, #[.int .i64 0, .int .i64 0], 25), (r14, #[.int .i64 0, .int .i64 0], 25)]) := by
      intro r13 r14 hr13 hr14 hx14_13
      refine hto _ _ _ _ ?_
      subst hact
      (try simp only [Act.put, List.setIfInBounds_toArray, List.set_cons_succ, List.set_cons_zero])
      refine wpAnyF_ready [20, 23] 5 (by kernel_rfl) (by kernel_rfl) (by simp) ?_
      refine AllF.cons ?_ ?_
      · refine stepK_call (v := .agg #[.int .i64 x4, .int .i64 y4]) (some 65) (CB c o4) (by rfl) (by rfl) (by rfl) (fun _ => by go_simp) (CB.closed _ _) (by simp; omega) (fun w' hC => H4.out c w' hC) (fun hne => ?_)
        (try simp only [Act.put, List.setIfInBounds_toArray, List.set_cons_succ, List.set_cons_zero])
        have hn := hfr _ _ _ _ (n12 r13 r14 (by omega) (by omega) (by omega))
        (try simp only [Act.put, List.setIfInBounds_toArray, List.set_cons_succ, List.set_cons_zero] at hn)
        exact wpAnyF_weaken (KD.perm (by simp)) hn
      refine AllF.cons ?_ ?_
      · refine stepK_alloc (zs := #[.int .i64 0, .int .i64 0]) (T := 25) (by rfl) (by rfl) (by rfl) (fun _ => by go_simp) (CB.closed _ _) (fun r12 hr12 hl12 hne => ?_)
        simp at hl12
        (try simp only [Act.put, List.setIfInBounds_toArray, List.set_cons_succ, List.set_cons_zero])
        have hn := hfr _ _ _ _ (n16 r12 r13 r14 (by omega) (by omega) (by omega) (by omega) (by omega) (by omega))
        (try simp only [Act.put, List.setIfInBounds_toArray, List.set_cons_succ, List.set_cons_zero] at hn)
        exact wpAnyF_weaken (KD.perm (by simp)) hn
      exact AllF.nil
    have n21 : ∀ (r13 : Nat) (hr13 : W.heap.size ≤ r13), F 7 #[true, true, true, true, true, true, true, true, true, true, true, true, true, true, true, true, true, true, true, true, false, true, false, false, true, false, false, false, false] ((((act0.put (some 51) (.agg #[.int .i64 x1, .int .i64 y1])).put (some 53) (.agg #[.int .i64 x2, .int .i64 y2])).put (some 58) (.agg #[.int .i64 x3, .int .i64 y3])).put (some 13) (.pointer (some ⟨r13, 0, none⟩))) (KD (CB c o3) [(r13, #[.int .i64 0, .int .i64 0], 25)]) := by
      intro r13 hr13
      refine hto _ _ _ _ ?_
      subst hact
      (try simp only [Act.put, List.setIfInBounds_toArray, List.set_cons_succ, List.set_cons_zero])
      refine wpAnyF_ready [20, 23, 25] 6 (by kernel_rfl) (by kernel_rfl) (by simp) ?_
      refine AllF.cons ?_ ?_
      · refine stepK_call (v := .agg #[.int .i64 x4, .int .i64 y4]) (some 65) (CB c o4) (by rfl) (by rfl) (by rfl) (fun _ => by go_simp) (CB.closed _ _) (by simp; omega) (fun w' hC => H4.out c w' hC) (fun hne => ?_)
        (try simp only [Act.put, List.setIfInBounds_toArray, List.set_cons_succ, List.set_cons_zero])
        have hn := hfr _ _ _ _ (n13 r13 (by omega))
        (try simp only [Act.put, List.setIfInBounds_toArray, List.set_cons_succ, List.set_cons_zero] at hn)
        exact wpAnyF_weaken (KD.perm (by simp)) hn
      refine AllF.cons ?_ ?_
      · refine stepK_alloc (zs := #[.int .i64 0, .int .i64 0]) (T := 25) (by rfl) (by rfl) (by rfl) (fun _ => by go_simp) (CB.closed _ _) (fun r12 hr12 hl12 hne => ?_)
        simp at hl12
        (try simp only [Act.put, List.setIfInBounds_toArray, List.set_cons_succ, List.set_cons_zero])
        have hn := hfr _ _ _ _ (n17 r12 r13 (by omega) (by omega) (by omega))
        (try simp only [Act.put, List.setIfInBounds_toArray, List.set_cons_succ, List.set_cons_zero] at hn)
        exact wpAnyF_weaken (KD.perm (by simp)) hn
      refine AllF.cons ?_ ?_
      · refine stepK_alloc (zs := #[.int .i64 0, .int .i64 0]) (T := 25) (by rfl) (by rfl) (by rfl) (fun _ => by go_simp) (CB.closed _ _) (fun r14 hr14 hl14 hne => ?_)
        simp at hl14
        (try simp only [Act.put, List.setIfInBounds_toArray, List.set_cons_succ, List.set_cons_zero])
        have hn := hfr _ _ _ _ (n20 r13 r14 (by omega) (by omega) (by omega))
        (try simp only [Act.put, List.setIfInBounds_toArray, List.set_cons_succ, List.set_cons_zero] at hn)
        exact wpAnyF_weaken (KD.perm (by simp)) hn
      exact AllF.nil
    have n22 : ∀ (r14 : Nat) (hr14 : W.heap.size ≤ r14), F 7 #[true, true, true, true, true, true, true, true, true, true, true, true, true, true, true, true, true, true, true, true, false, true, false, false, false, true, false, false, false] ((((act0.put (some 51) (.agg #[.int .i64 x1, .int .i64 y1])).put (some 53) (.agg #[.int .i64 x2, .int .i64 y2])).put (some 58) (.agg #[.int .i64 x3, .int .i64 y3])).put (some 14) (.pointer (some ⟨r14, 0, none⟩))) (KD (CB c o3) [(r14, #[.int .i64 0, .int .i64 0], 25)]) := by
      intro r14 hr14
      refine hto _ _ _ _ ?_
      subst hact
      (try simp only [Act.put, List.setIfInBounds_toArray, List.set_cons_succ, List.set_cons_zero])
      refine wpAnyF_ready [20, 23, 24] 6 (by kernel_rfl) (by kernel_rfl) (by simp) ?_
      refine AllF.cons ?_ ?_
      · refine stepK_call (v := .agg #[.int .i64 x4, .int .i64 y4]) (some 65) (CB c o4) (by rfl) (by rfl) (by rfl) (fun _ => by go_simp) (CB.closed _ _) (by simp; omega) (fun w' hC => H4.out c w' hC) (fun hne => ?_)
        (try simp only [Act.put, List.setIfInBounds_toArray, List.set_cons_succ, List.set_cons_zero])
        have hn := hfr _ _ _ _ (n14 r14 (by omega))
        (try simp only [Act.put, List.setIfInBounds_toArray, List.set_cons_succ, List.set_cons_zero] at hn)
        exact wpAnyF_weaken (KD.perm (by simp)) hn
      refine AllF.cons ?_ ?_
      · refine stepK_alloc (zs := #[.int .i64 0, .int .i64 0]) (T := 25) (by rfl) (by rfl) (by rfl) (fun _ => by go_simp) (CB.closed _ _) (fun r12 hr12 hl12 hne => ?_)
        simp at hl12
        (try simp only [Act.put, List.setIfInBounds_toArray, List.set_cons_succ, List.set_cons_zero])
        have hn := hfr _ _ _ _ (n18 r12 r14 (by omega) (by omega) (by omega))
        (try simp only [Act.put, List.setIfInBounds_toArray, List.set_cons_succ, List.set_cons_zero] at hn)
        exact wpAnyF_weaken (KD.perm (by simp)) hn
      refine AllF.cons ?_ ?_
      · refine stepK_alloc (zs := #[.int .i64 0, .int .i64 0]) (T := 25) (by rfl) (by rfl) (by rfl) (fun _ => by go_simp) (CB.closed _ _) (fun r13 hr13 hl13 hne => ?_)
        simp at hl13
        (try simp only [Act.put, List.setIfInBounds_toArray, List.set_cons_succ, List.set_cons_zero])
        have hn := hfr _ _ _ _ (n20 r13 r14 (by omega) (by omega) (by omega))
        (try simp only [Act.put, List.setIfInBounds_toArray, List.set_cons_succ, List.set_cons_zero] at hn)
        exact wpAnyF_weaken (KD.perm (by simp)) hn
      exact AllF.nil
    have n23 : ∀ (_ : True), F 8 #[true, true, true, true, true, true, true, true, true, true, true, true, true, true, true, true, true, true, true, true, false, true, false, false, false, false, false, false, false] (((act0.put (some 51) (.agg #[.int .i64 x1, .int .i64 y1])).put (some 53) (.agg #[.int .i64 x2, .int .i64 y2])).put (some 58) (.agg #[.int .i64 x3, .int .i64 y3])) (KD (CB c o3) []) := by
      intro _
      refine hto _ _ _ _ ?_
      subst hact
      (try simp only [Act.put, List.setIfInBounds_toArray, List.set_cons_succ, List.set_cons_zero])
      refine wpAnyF_ready [20, 23, 24, 25] 7 (by kernel_rfl) (by kernel_rfl) (by simp) ?_
      refine AllF.cons ?_ ?_
      · refine stepK_call (v := .agg #[.int .i64 x4, .int .i64 y4]) (some 65) (CB c o4) (by rfl) (by rfl) (by rfl) (fun _ => by go_simp) (CB.closed _ _) (fun x hx => by cases hx) (fun w' hC => H4.out c w' hC) (fun hne => ?_)
        (try simp only [Act.put, List.setIfInBounds_toArray, List.set_cons_succ, List.set_cons_zero])
        have hn := hfr _ _ _ _ (n15 trivial)
        (try simp only [Act.put, List.setIfInBounds_toArray, List.set_cons_succ, List.set_cons_zero] at hn)
        exact wpAnyF_weaken (KD.perm (by simp)) hn
      refine AllF.cons ?_ ?_
      · refine stepK_alloc (zs := #[.int .i64 0, .int .i64 0]) (T := 25) (by rfl) (by rfl) (by rfl) (fun _ => by go_simp) (CB.closed _ _) (fun r12 hr12 hl12 hne => ?_)
        (try simp only [Act.put, List.setIfInBounds_toArray, List.set_cons_succ, List.set_cons_zero])
        have hn := hfr _ _ _ _ (n19 r12 (by omega))
        (try simp only [Act.put, List.setIfInBounds_toArray, List.set_cons_succ, List.set_cons_zero] at hn)
        exact wpAnyF_weaken (KD.perm (by simp)) hn
      refine AllF.cons ?_ ?_
      · refine stepK_alloc (zs := #[.int .i64 0, .int .i64 0]) (T := 25) (by rfl) (by rfl) (by rfl) (fun _ => by go_simp) (CB.closed _ _) (fun r13 hr13 hl13 hne => ?_)
        (try simp only [Act.put, List.setIfInBounds_toArray, List.set_cons_succ, List.set_cons_zero])
        have hn := hfr _ _ _ _ (n21 r13 (by omega))
        (try simp only [Act.put, List.setIfInBounds_toArray, List.set_cons_succ, List.set_cons_zero] at hn)
        exact wpAnyF_weaken (KD.perm (by simp)) hn
      refine AllF.cons ?_ ?_
      · refine stepK_alloc (zs := #[.int .i64 0, .int .i64 0]) (T := 25) (by rfl) (by rfl) (by rfl) (fun _ => by go_simp) (CB.closed _ _) (fun r14 hr14 hl14 hne => ?_)
        (try simp only [Act.put, List.setIfInBounds_toArray, List.set_cons_succ, List.set_cons_zero])
        have hn := hfr _ _ _ _ (n22 r14 (by omega))
        (try simp only [Act.put, List.setIfInBounds_toArray, List.set_cons_succ, List.set_cons_zero] at hn)
        exact wpAnyF_weaken (KD.perm (by simp)) hn
      exact AllF.nil
    have n24 : ∀ (r12 : Nat) (r13 : Nat) (r14 : Nat) (hr12 : W.heap.size ≤ r12) (hr13 : W.heap.size ≤ r13) (hr14 : W.heap.size ≤ r14) (hx13_12 : r13 ≠ r12) (hx14_12 : r14 ≠ r12) (hx14_13 : r14 ≠ r13), F 6 #[true, true, true, true, true, true, true, true, true, true, true, true, true, false, true, true, true, true, true, true, false, true, false, true, true, true, false, false, false] (((((act0.put (some 51) (.agg #[.int .i64 x1, .int .i64 y1])).put (some 53) (.agg #[.int .i64 x2, .int .i64 y2])).put (some 12) (.pointer (some ⟨r12, 0, none⟩))).put (some 13) (.pointer (some ⟨r13, 0, none⟩))).put (some 14) (.pointer (some ⟨r14, 0, none⟩))) (KD (CB c o2) [(r12, #[.int .i64 0, .int .i64 0], 25), (r13, #[.int .i64 0, .int .i64 0], 25), (r14, #[.int .i64 0, .int .i64 0], 25)]) := by
      intro r12 r13 r14 hr12 hr13 hr14 hx13_12 hx14_12 hx14_13
      refine hto _ _ _ _ ?_
      subst hact
      (try simp only [Act.put, List.setIfInBounds_toArray, List.set_cons_succ, List.set_cons_zero])
      refine wpAnyF_ready [13] 5 (by kernel_rfl) (by kernel_rfl) (by simp) ?_
      refine AllF.cons ?_ ?_
      · refine stepK_call (v := .agg #[.int .i64 x3, .int .i64 y3]) (some 58) (CB c o3) (by rfl) (by rfl) (by rfl) (fun _ => by go_simp) (CB.closed _ _) (by simp; omega) (fun w' hC => H3.out c w' hC) (fun hne => ?_)
        (try simp only [Act.put, List.setIfInBounds_toArray, List.set_cons_succ, List.set_cons_zero])
        have hn := hfr _ _ _ _ (n16 r12 r13 r14 (by omega) (by omega) (by omega) (by omega) (by omega) (by omega))
        (try simp only [Act.put, List.setIfInBounds_toArray, List.set_cons_succ, List.set_cons_zero] at hn)
        exact wpAnyF_weaken (KD.perm (by simp)) hn
      exact AllF.nil
    have n25 : ∀ (r12 : Nat) (r13 : Nat) (hr12 : W.heap.size ≤ r12) (hr13 : W.heap.size ≤ r13) (hx13_12 : r13 ≠ r12), F 7 #[true, true, true, true, true, true, true, true, true, true, true, true, true, false, true, true, true, true, true, true, false, true, false, true, true, false, false, false, false] ((((act0.put (some 51) (.agg #[.int .i64 x1, .int .i64 y1])).put (some 53) (.agg #[.int .i64 x2, .int .i64 y2])).put (some 12) (.pointer (some ⟨r12, 0, none⟩))).put (some 13) (.pointer (some ⟨r13, 0, none⟩))) (KD (CB c o2) [(r12, #[.int .i64 0, .int .i64 0], 25), (r13, #[.int .i64 0, .int .i64 0], 25)]) := by
      intro r12 r13 hr12 hr13 hx13_12
      refine hto _ _ _ _ ?_
      subst hact
      (try simp only [Act.put, List.setIfInBounds_toArray, List.set_cons_succ, List.set_cons_zero])
      refine wpAnyF_ready [13, 25] 6 (by kernel_rfl) (by kernel_rfl) (by simp) ?_
      refine AllF.cons ?_ ?_
      · refine stepK_call (v := .agg #[.int .i64 x3, .int .i64 y3]) (some 58) (CB c o3) (by rfl) (by rfl) (by rfl) (fun _ => by go_simp) (CB.closed _ _) (by simp; omega) (fun w' hC => H3.out c w' hC) (fun hne => ?_)
        (try simp only [Act.put, List.setIfInBounds_toArray, List.set_cons_succ, List.set_cons_zero])
        have hn := hfr _ _ _ _ (n17 r12 r13 (by omega) (by omega) (by omega))
        (try simp only [Act.put, List.setIfInBounds_toArray, List.set_cons_succ, List.set_cons_zero] at hn)
        exact wpAnyF_weaken (KD.perm (by simp)) hn
      refine AllF.cons ?_ ?_
      · refine stepK_alloc (zs := #[.int .i64 0, .int .i64 0]) (T := 25) (by rfl) (by rfl) (by rfl) (fun _ => by go_simp) (CB.closed _ _) (fun r14 hr14 hl14 hne => ?_)
        simp at hl14
        (try simp only [Act.put, List.setIfInBounds_toArray, List.set_cons_succ, List.set_cons_zero])
        have hn := hfr _ _ _ _ (n24 r12 r13 r14 (by omega) (by omega) (by omega) (by omega) (by omega) (by omega))
        (try simp only [Act.put, List.setIfInBounds_toArray, List.set_cons_succ, List.set_cons_zero] at hn)
        exact wpAnyF_weaken (KD.perm (by simp)) hn
      exact AllF.nil
    have n26 : ∀ (r12 : Nat) (r14 : Nat) (hr12 : W.heap.size ≤ r12) (hr14 : W.heap.size ≤ r14) (hx14_12 : r14 ≠ r12), F 7 #[true, true, true, true, true, true, true, true, true, true, true, true, true, false, true, true, true, true, true, true, false, true, false, true, false, true, false, false, false] ((((act0.put (some 51) (.agg #[.int .i64 x1, .int .i64 y1])).put (some 53) (.agg #[.int .i64 x2, .int .i64 y2])).put (some 12) (.pointer (some ⟨r12, 0, none⟩))).put (some 14) (.pointer (some ⟨r14, 0, none⟩))) (KD (CB c o2) [(r12, #[.int .i64 0, .int .i64 0], 25), (r14, #[.int .i64 0, .int .i64 0], 25)]) := by
      intro r12 r14 hr12 hr14 hx14_12
      refine hto _ _ _ _ ?_
      subst hact
      (try simp only [Act.put, List.setIfInBounds_toArray, List.set_cons_succ, List.set_cons_zero])
      refine wpAnyF_ready [13, 24] 6 (by kernel_rfl) (by kernel_rfl) (by simp) ?_
      refine AllF.cons ?_ ?_
      · refine stepK_call (v := .agg #[.int .i64 x3, .int .i64 y3]) (some 58) (CB c o3) (by rfl) (by rfl) (by rfl) (fun _ => by go_simp) (CB.closed _ _) (by simp; omega) (fun w' hC => H3.out c w' hC) (fun hne => ?_)
        (try simp only [Act.put, List.setIfInBounds_toArray, List.set_cons_succ, List.set_cons_zero])
        have hn := hfr _ _ _ _ (n18 r12 r14 (by omega) (by omega) (by omega))
        (try simp only [Act.put, List.setIfInBounds_toArray, List.set_cons_succ, List.set_cons_zero] at hn)
        exact wpAnyF_weaken (KD.perm (by simp)) hn
      refine AllF.cons ?_ ?_
      · refine stepK_alloc (zs := #[.int .i64 0, .int .i64 0]) (T := 25) (by rfl) (by rfl) (by rfl) (fun _ => by go_simp) (CB.closed _ _) (fun r13 hr13 hl13 hne => ?_)
        simp at hl13
        (try simp only [Act.put, List.setIfInBounds_toArray, List.set_cons_succ, List.set_cons_zero])
        have hn := hfr _ _ _ _ (n24 r12 r13 r14 (by omega) (by omega) (by omega) (by omega) (by omega) (by omega))
        (try simp only [Act.put, List.setIfInBounds_toArray, List.set_cons_succ, List.set_cons_zero] at hn)
        exact wpAnyF_weaken (KD.perm (by simp)) hn
      exact AllF.nil
    have n27 : ∀ (r12 : Nat) (hr12 : W.heap.size ≤ r12), F 8 #[true, true, true, true, true, true, true, true, true, true, true, true, true, false, true, true, true, true, true, true, false, true, false, true, false, false, false, false, false] (((act0.put (some 51) (.agg #[.int .i64 x1, .int .i64 y1])).put (some 53) (.agg #[.int .i64 x2, .int .i64 y2])).put (some 12) (.pointer (some ⟨r12, 0, none⟩))) (KD (CB c o2) [(r12, #[.int .i64 0, .int .i64 0], 25)]) := by
      intro r12 hr12
      refine hto _ _ _ _ ?_
      subst hact
      (try simp only [Act.put, List.setIfInBounds_toArray, List.set_cons_succ, List.set_cons_zero])
      refine wpAnyF_ready [13, 24, 25] 7 (by kernel_rfl) (by kernel_rfl) (by simp) ?_
      refine AllF.cons ?_ ?_
      · refine stepK_call (v := .agg #[.int .i64 x3, .int .i64 y3]) (some 58) (CB c o3) (by rfl) (by rfl) (by rfl) (fun _ => by go_simp) (CB.closed _ _) (by simp; omega) (fun w' hC => H3.out c w' hC) (fun hne => ?_)
        (try simp only [Act.put, List.setIfInBounds_toArray, List.set_cons_succ, List.set_cons_zero])
        have hn := hfr _ _ _ _ (n19 r12 (by omega))
        (try simp only [Act.put, List.setIfInBounds_toArray, List.set_cons_succ, List.set_cons_zero] at hn)
        exact wpAnyF_weaken (KD.perm (by simp)) hn
      refine AllF.cons ?_ ?_
      · refine stepK_alloc (zs := #[.int .i64 0, .int .i64 0]) (T := 25) (by rfl) (by rfl) (by rfl) (fun _ => by go_simp) (CB.closed _ _) (fun r13 hr13 hl13 hne => ?_)
        simp at hl13
        (try simp only [Act.put, List.setIfInBounds_toArray, List.set_cons_succ, List.set_cons_zero])
        have hn := hfr _ _ _ _ (n25 r12 r13 (by omega) (by omega) (by omega))
        (try simp only [Act.put, List.setIfInBounds_toArray, List.set_cons_succ, List.set_cons_zero] at hn)
        exact wpAnyF_weaken (KD.perm (by simp)) hn
      refine AllF.cons ?_ ?_
      · refine stepK_alloc (zs := #[.int .i64 0, .int .i64 0]) (T := 25) (by rfl) (by rfl) (by rfl) (fun _ => by go_simp) (CB.closed _ _) (fun r14 hr14 hl14 hne => ?_)
        simp at hl14
        (try simp only [Act.put, List.setIfInBounds_toArray, List.set_cons_succ, List.set_cons_zero])
        have hn := hfr _ _ _ _ (n26 r12 r14 (by omega) (by omega) (by omega))
        (try simp only [Act.put, List.setIfInBounds_toArray, List.set_cons_succ, List.set_cons_zero] at hn)
        exact wpAnyF_weaken (KD.perm (by simp)) hn
      exact AllF.nil
    have n28 : ∀ (r13 : Nat) (r14 : Nat) (hr13 : W.heap.size ≤ r13) (hr14 : W.heap.size ≤ r14) (hx14_13 : r14 ≠ r13), F 7 #[true, true, true, true, true, true, true, true, true, true, true, true, true, false, true, true, true, true, true, true, false, true, false, false, true, true, false, false, false] ((((act0.put (some 51) (.agg #[.int .i64 x1, .int .i64 y1])).put (some 53) (.agg #[.int .i64 x2, .int .i64 y2])).put (some 13) (.pointer (some ⟨r13, 0, none⟩))).put (some 14) (.pointer (some ⟨r14, 0, none⟩))) (KD (CB c o2) [(r13, #[.int .i64 0, .int .i64 0], 25), (r14, #[.int .i64 0, .int .i64 0], 25)]) := by
      intro r13 r14 hr13 hr14 hx14_13
      refine hto _ _ _ _ ?_
      subst hact
      (try simp only [Act.put, List.setIfInBounds_toArray, List.set_cons_succ, List.set_cons_zero])
      refine wpAnyF_ready [13, 23] 6 (by kernel_rfl) (by kernel_rfl) (by simp) ?_
      refine AllF.cons ?_ ?_
      · refine stepK_call (v := .agg #[.int .i64 x3, .int .i64 y3]) (some 58) (CB c o3) (by rfl) (by rfl) (by rfl) (fun _ => by go_simp) (CB.closed _ _) (by simp; omega) (fun w' hC => H3.out c w' hC) (fun hne => ?_)
        (try simp only [Act.put, List.setIfInBounds_toArray, List.set_cons_succ, List.set_cons_zero])
        have hn := hfr _ _ _ _ (n20 r13 r14 (by omega) (by omega) (by omega))
        (try simp only [Act.put, List.setIfInBounds_toArray, List.set_cons_succ, List.set_cons_zero] at hn)
        exact wpAnyF_weaken (KD.perm (by simp)) hn
      refine AllF.cons ?_ ?_
      · refine stepK_alloc (zs := #[.int .i64 0, .int .i64 0]) (T := 25) (by rfl) (by rfl) (by rfl) (fun _ => by go_simp) (CB.closed _ _) (fun r12 hr12 hl12 hne => ?_)
        simp at hl12
        (try simp only [Act.put, List.setIfInBounds_toArray, List.set_cons_succ, List.set_cons_zero])
        have hn := hfr _ _ _ _ (n24 r12 r13 r14 (by omega) (by omega) (by omega) (by omega) (by omega) (by omega))
        (try simp only [Act.put, List.setIfInBounds_toArray, List.set_cons_succ, List.set_cons_zero] at hn)
        exact wpAnyF_weaken (KD.perm (by simp)) hn
      exact AllF.nil
    have n29 : ∀ (r13 : Nat) (hr13 : W.heap.size ≤ r13), F 8 #[true, true, true, true, true, true, true, true, true, true, true, true, true, false, true, true, true, true, true, true, false, true, false, false, true, false, false, false, false] (((act0.put (some 51) (.agg #[.int .i64 x1, .int .i64 y1])).put (some 53) (.agg #[.int .i64 x2, .int .i64 y2])).put (some 13) (.pointer (some ⟨r13, 0, none⟩))) (KD (CB c o2) [(r13, #[.int .i64 0, .int .i64 0], 25)]) := by
      intro r13 hr13
      refine hto _ _ _ _ ?_
      subst hact
      (try simp only [Act.put, List.setIfInBounds_toArray, List.set_cons_succ, List.set_cons_zero])
      refine wpAnyF_ready [13, 23, 25] 7 (by kernel_rfl) (by kernel_rfl) (by simp) ?_
      refine AllF.cons ?_ ?_
      · refine stepK_call (v := .agg #[.int .i64 x3, .int .i64 y3]) (some 58) (CB c o3) (by rfl) (by rfl) (by rfl) (fun _ => by go_simp) (CB.closed _ _) (by simp; omega) (fun w' hC => H3.out c w' hC) (fun hne => ?_)
        (try simp only [Act.put, List.setIfInBounds_toArray, List.set_cons_succ, List.set_cons_zero])
        have hn := hfr _ _ _ _ (n21 r13 (by omega))
        (try simp only [Act.put, List.setIfInBounds_toArray, List.set_cons_succ, List.set_cons_zero] at hn)
        exact wpAnyF_weaken (KD.perm (by simp)) hn
      refine AllF.cons ?_ ?_
      · refine stepK_alloc (zs := #[.int .i64 0, .int .i64 0]) (T := 25) (by rfl) (by rfl) (by rfl) (fun _ => by go_simp) (CB.closed _ _) (fun r12 hr12 hl12 hne => ?_)
        simp at hl12
        (try simp only [Act.put, List.setIfInBounds_toArray, List.set_cons_succ, List.set_cons_zero])
        have hn := hfr _ _ _ _ (n25 r12 r13 (by omega) (by omega) (by omega))
        (try simp only [Act.put, List.setIfInBounds_toArray, List.set_cons_succ, List.set_cons_zero] at hn)
        exact wpAnyF_weaken (KD.perm (by simp)) hn
      refine AllF.cons ?_ ?_
      · refine stepK_alloc (zs := #[.int .i64 0, .int .i64 0]) (T := 25) (by rfl) (by rfl) (by rfl) (fun _ => by go_simp) (CB.closed _ _) (fun r14 hr14 hl14 hne => ?_)
        simp at hl14
        (try simp only [Act.put, List.setIfInBounds_toArray, List.set_cons_succ, List.set_cons_zero])
        have hn := hfr _ _ _ _ (n28 r13 r14 (by omega) (by omega) (by omega))
        (try simp only [Act.put, List.setIfInBounds_toArray, List.set_cons_succ, List.set_cons_zero] at hn)
        exact wpAnyF_weaken (KD.perm (by simp)) hn
      exact AllF.nil
    have n30 : ∀ (r14 : Nat) (hr14 : W.heap.size ≤ r14), F 8 #[true, true, true, true, true, true, true, true, true, true, true, true, true, false, true, true, true, true, true, true, false, true, false, false, false, true, false, false, false] (((act0.put (some 51) (.agg #[.int .i64 x1, .int .i64 y1])).put (some 53) (.agg #[.int .i64 x2, .int .i64 y2])).put (some 14) (.pointer (some ⟨r14, 0, none⟩))) (KD (CB c o2) [(r14, #[.int .i64 0, .int .i64 0], 25)]) := by
      intro r14 hr14
      refine hto _ _ _ _ ?_
      subst hact
      (try simp only [Act.put, List.setIfInBounds_toArray, List.set_cons_succ, List.set_cons_zero])
      refine wpAnyF_ready [13, 23, 24] 7 (by kernel_rfl) (by kernel_rfl) (by simp) ?_
      refine AllF.cons ?_ ?_
      · refine stepK_call (v := .agg #[.int .i64 x3, .int .i64 y3]) (some 58) (CB c o3) (by rfl) (by rfl) (by rfl) (fun _ => by go_simp) (CB.closed _ _) (by simp; omega) (fun w' hC => H3.out c w' hC) (fun hne => ?_)
        (try simp only [Act.put, List.setIfInBounds_toArray, List.set_cons_succ, List.set_cons_zero])
        have hn := hfr _ _ _ _ (n22 r14 (by omega))
        (try simp only [Act.put, List.setIfInBounds_toArray, List.set_cons_succ, List.set_cons_zero] at hn)
        exact wpAnyF_weaken (KD.perm (by simp)) hn
      refine AllF.cons ?_ ?_
      · refine stepK_alloc (zs := #[.int .i64 0, .int .i64 0]) (T := 25) (by rfl) (by rfl) (by rfl) (fun _ => by go_simp) (CB.closed _ _) (fun r12 hr12 hl12 hne => ?_)
        simp at hl12
        (try simp only [Act.put, List.setIfInBounds_toArray, List.set_cons_succ, List.set_cons_zero])
        have hn := hfr _ _ _ _ (n26 r12 r14 (by omega) (by omega) (by omega))
        (try simp only [Act.put, List.setIfInBounds_toArray, List.set_cons_succ, List.set_cons_zero] at hn)
        exact wpAnyF_weaken (KD.perm (by simp)) hn
      refine AllF.cons ?_ ?_
      · refine stepK_alloc (zs := #[.int .i64 0, .int .i64 0]) (T := 25) (by rfl) (by rfl) (by rfl) (fun _ => by go_simp) (CB.closed _ _) (fun r13 hr13 hl13 hne => ?_)
        simp at hl13
        (try simp only [Act.put, List.setIfInBounds_toArray, List.set_cons_succ, List.set_cons_zero])
        have hn := hfr _ _ _ _ (n28 r13 r14 (by omega) (by omega) (by omega))
        (try simp only [Act.put, List.setIfInBounds_toArray, List.set_cons_succ, List.set_cons_zero] at hn)
        exact wpAnyF_weaken (KD.perm (by simp)) hn
      exact AllF.nil
    have n31 : ∀ (_ : True), F 9 #[true, true, true, true, true, true, true, true, true, true, true, true, true, false, true, true, true, true, true, true, false, true, false, false, false, false, false, false, false] ((act0.put (some 51) (.agg #[.int .i64 x1, .int .i64 y1])).put (some 53) (.agg #[.int .i64 x2, .int .i64 y2])) (KD (CB c o2) []) := by
      intro _
      refine hto _ _ _ _ ?_
      subst hact
      (try simp only [Act.put, List.setIfInBounds_toArray, List.set_cons_succ, List.set_cons_zero])
      refine wpAnyF_ready [13, 23, 24, 25] 8 (by kernel_rfl) (by kernel_rfl) (by simp) ?_
      refine AllF.cons ?_ ?_
      · refine stepK_call (v := .agg #[.int .i64 x3, .int .i64 y3]) (some 58) (CB c o3) (by rfl) (by rfl) (by rfl) (fun _ => by go_simp) (CB.closed _ _) (fun x hx => by cases hx) (fun w' hC => H3.out c w' hC) (fun hne => ?_)
        (try simp only [Act.put, List.setIfInBounds_toArray, List.set_cons_succ, List.set_cons_zero])
        have hn := hfr _ _ _ _ (n23 trivial)
        (try simp only [Act.put, List.setIfInBounds_toArray, List.set_cons_succ, List.set_cons_zero] at hn)
        exact wpAnyF_weaken (KD.perm (by simp)) hn
      refine AllF.cons ?_ ?_
      · refine stepK_alloc (zs := #[.int .i64 0, .int .i64 0]) (T := 25) (by rfl) (by rfl) (by rfl) (fun _ => by go_simp) (CB.closed _ _) (fun r12 hr12 hl12 hne => ?_)
        (try simp only [Act.put, List.setIfInBounds_toArray, List.set_cons_succ, List.set_cons_zero])
        have hn := hfr _ _ _ _ (n27 r12 (by omega))
        (try simp only [Act.put, List.setIfInBounds_toArray, List.set_cons_succ, List.set_cons_zero] at hn)
        exact wpAnyF_weaken (KD.perm (by simp)) hn
      refine AllF.cons ?_ ?_
      · refine stepK_alloc (zs := #[.int .i64 0, .int .i64 0]) (T := 25) (by rfl) (by rfl) (by rfl) (fun _ => by go_simp) (CB.closed _ _) (fun r13 hr13 hl13 hne => ?_)
        (try simp only [Act.put, List.setIfInBounds_toArray, List.set_cons_succ, List.set_cons_zero])
        have hn := hfr _ _ _ _ (n29 r13 (by omega))
        (try simp only [Act.put, List.setIfInBounds_toArray, List.set_cons_succ, List.set_cons_zero] at hn)
        exact wpAnyF_weaken (KD.perm (by simp)) hn
      refine AllF.cons ?_ ?_
      · refine stepK_alloc (zs := #[.int .i64 0, .int .i64 0]) (T := 25) (by rfl) (by rfl) (by rfl) (fun _ => by go_simp) (CB.closed _ _) (fun r14 hr14 hl14 hne => ?_)
        (try simp only [Act.put, List.setIfInBounds_toArray, List.set_cons_succ, List.set_cons_zero])
        have hn := hfr _ _ _ _ (n30 r14 (by omega))
        (try simp only [Act.put, List.setIfInBounds_toArray, List.set_cons_succ, List.set_cons_zero] at hn)
        exact wpAnyF_weaken (KD.perm (by simp)) hn
      exact AllF.nil
    have n32 : ∀ (r12 : Nat) (r13 : Nat) (r14 : Nat) (hr12 : W.heap.size ≤ r12) (hr13 : W.heap.size ≤ r13) (hr14 : W.heap.size ≤ r14) (hx13_12 : r13 ≠ r12) (hx14_12 : r14 ≠ r12) (hx14_13 : r14 ≠ r13), F 7 #[true, true, true, true, true, true, true, true, false, true, true, true, true, false, true, true, true, true, true, true, false, true, false, true, true, true, false, false, false] ((((act0.put (some 51) (.agg #[.int .i64 x1, .int .i64 y1])).put (some 12) (.pointer (some ⟨r12, 0, none⟩))).put (some 13) (.pointer (some ⟨r13, 0, none⟩))).put (some 14) (.pointer (some ⟨r14, 0, none⟩))) (KD (CB c o1) [(r12, #[.int .i64 0, .int .i64 0], 25), (r13, #[.int .i64 0, .int .i64 0], 25), (r14, #[.int .i64 0, .int .i64 0], 25)]) := by
      intro r12 r13 r14 hr12 hr13 hr14 hx13_12 hx14_12 hx14_13
      refine hto _ _ _ _ ?_
      subst hact
      (try simp only [Act.put, List.setIfInBounds_toArray, List.set_cons_succ, List.set_cons_zero])
      refine wpAnyF_ready [8] 6 (by kernel_rfl) (by kernel_rfl) (by simp) ?_
      refine AllF.cons ?_ ?_
      · refine stepK_call (v := .agg #[.int .i64 x2, .int .i64 y2]) (some 53) (CB c o2) (by rfl) (by rfl) (by rfl) (fun _ => by go_simp) (CB.closed _ _) (by simp; omega) (fun w' hC => H2.out c w' hC) (fun hne => ?_)
        (try simp only [Act.put, List.setIfInBounds_toArray, List.set_cons_succ, List.set_cons_zero])
        have hn := hfr _ _ _ _ (n24 r12 r13 r14 (by omega) (by omega) (by omega) (by omega) (by omega) (by omega))
        (try simp only [Act.put, List.setIfInBounds_toArray, List.set_cons_succ, List.set_cons_zero] at hn)
        exact wpAnyF_weaken (KD.perm (by simp)) hn
      exact AllF.nil
    have n33 : ∀ (r12 : Nat) (r13 : Nat) (hr12 : W.heap.size ≤ r12) (hr13 : W.heap.size ≤ r13) (hx13_12 : r13 ≠ r12), F 8 #[true, true, true, true, true, true, true, true, false, true, true, true, true, false, true, true, true, true, true, true, false, true, false, true, true, false, false, false, false] (((act0.put (some 51) (.agg #[.int .i64 x1, .int .i64 y1])).put (some 12) (.pointer (some ⟨r12, 0, none⟩))).put (some 13) (.pointer (some ⟨r13, 0, none⟩))) (KD (CB c o1) [(r12, #[.int .i64 0, .int .i64 0], 25), (r13, #[.int .i64 0, .int .i64 0], 25)]) := by
      intro r12 r13 hr12 hr13 hx13_12
      refine hto _ _ _ _ ?_
      subst hact
      (try simp only [Act.put, List.setIfInBounds_toArray, List.set_cons_succ, List.set_cons_zero])
      refine wpAnyF_ready [8, 25] 7 (by kernel_rfl) (by kernel_rfl) (by simp) ?_
      refine AllF.cons ?_ ?_
      · refine stepK_call (v := .agg #[.int .i64 x2, .int .i64 y2]) (some 53) (CB c o2) (by rfl) (by rfl) (by rfl) (fun _ => by go_simp) (CB.closed _ _) (by simp; omega) (fun w' hC => H2.out c w' hC) (fun hne => ?_)
        (try simp only [Act.put, List.setIfInBounds_toArray, List.set_cons_succ, List.set_cons_zero])
        have hn := hfr _ _ _ _ (n25 r12 r13 (by omega) (by omega) (by omega))
        (try simp only [Act.put, List.setIfInBounds_toArray, List.set_cons_succ, List.set_cons_zero] at hn)
        exact wpAnyF_weaken (KD.perm (by simp)) hn
      refine AllF.cons ?_ ?_
      · refine stepK_alloc (zs := #[.int .i64 0, .int .i64 0]) (T := 25) (by rfl) (by rfl) (by rfl) (fun _ => by go_simp) (CB.closed _ _) (fun r14 hr14 hl14 hne => ?_)
        simp at hl14
        (try simp only [Act.put, List.setIfInBounds_toArray, List.set_cons_succ, List.set_cons_zero])
        have hn := hfr _ _ _ _ (n32 r12 r13 r14 (by omega) (by omega) (by omega) (by omega) (by omega) (by omega))
        (try simp only [Act.put, List.setIfInBounds_toArray, List.set_cons_succ, List.set_cons_zero] at hn)
        exact wpAnyF_weaken (KD.perm (by simp)) hn
      exact AllF.nil
    have n34 : ∀ (r12 : Nat) (r14 : Nat) (hr12 : W.heap.size ≤ r12) (hr14 : W.heap.size ≤ r14) (hx14_12 : r14 ≠ r12), F 8 #[true, true, true, true, true, true, true, true, false, true, true, true, true, false, true, true, true, true, true, true, false, true, false, true, false, true, false, false, false] (((act0.put (some 51) (.agg #[.int .i64 x1, .int .i64 y1])).put (some 12) (.pointer (some ⟨r12, 0, none⟩))).put (some 14) (.pointer (some ⟨r14, 0, none⟩))) (KD (CB c o1) [(r12, #[.int .i64 0, .int .i64 0], 25), (r14, #[.int .i64 0, .int .i64 0], 25)]) := by
      intro r12 r14 hr12 hr14 hx14_12
      refine hto _ _ _ _ ?_
      subst hact
      (try simp only [Act.put, List.setIfInBounds_toArray, List.set_cons_succ, List.set_cons_zero])
      refine wpAnyF_ready [8, 24] 7 (by kernel_rfl) (by kernel_rfl) (by simp) ?_
      refine AllF.cons ?_ ?_
      · refine stepK_call (v := .agg #[.int .i64 x2, .int .i64 y2]) (some 53) (CB c o2) (by rfl) (by rfl) (by rfl) (fun _ => by go_simp) (CB.closed _ _) (by simp; omega) (fun w' hC => H2.out c w' hC) (fun hne => ?_)
        (try simp only [Act.put, List.setIfInBounds_toArray, List.set_cons_succ, List.set_cons_zero])
        have hn := hfr _ _ _ _ (n26 r12 r14 (by omega) (by omega) (by omega))
        (try simp only [Act.put, List.setIfInBounds_toArray, List.set_cons_succ, List.set_cons_zero] at hn)
        exact wpAnyF_weaken (KD.perm (by simp)) hn
      refine AllF.cons ?_ ?_
      · refine stepK_alloc (zs := #[.int .i64 0, .int .i64 0]) (T := 25) (by rfl) (by rfl) (by rfl) (fun _ => by go_simp) (CB.closed _ _) (fun r13 hr13 hl13 hne => ?_)
        simp at hl13
        (try simp only [Act.put, List.setIfInBounds_toArray, List.set_cons_succ, List.set_cons_zero])
        have hn := hfr _ _ _ _ (n32 r12 r13 r14 (by omega) (by omega) (by omega) (by omega) (by omega) (by omega))
        (try simp only [Act.put, List.setIfInBounds_toArray, List.set_cons_succ, List.set_cons_zero] at hn)
        exact wpAnyF_weaken (KD.perm (by simp)) hn
      exact AllF.nil
    have n35 : ∀ (r12 : Nat) (hr12 : W.heap.size ≤ r12), F 9 #[true, true, true, true, true, true, true, true, false, true, true, true, true, false, true, true, true, true, true, true, false, true, false, true, false, false, false, false, false] ((act0.put (some 51) (.agg #[.int .i64 x1, .int .i64 y1])).put (some 12) (.pointer (some ⟨r12, 0, none⟩))) (KD (CB c o1) [(r12, #[.int .i64 0, .int .i64 0], 25)]) := by
      intro r12 hr12
      refine hto _ _ _ _ ?_
      subst hact
      (try simp only [Act.put, List.setIfInBounds_toArray, List.set_cons_succ, List.set_cons_zero])
      refine wpAnyF_ready [8, 24, 25] 8 (by kernel_rfl) (by kernel_rfl) (by simp) ?_
      refine AllF.cons ?_ ?_
      · refine stepK_call (v := .agg #[.int .i64 x2, .int .i64 y2]) (some 53) (CB c o2) (by rfl) (by rfl) (by rfl) (fun _ => by go_simp) (CB.closed _ _) (by simp; omega) (fun w' hC => H2.out c w' hC) (fun hne => ?_)
        (try simp only [Act.put, List.setIfInBounds_toArray, List.set_cons_succ, List.set_cons_zero])
        have hn := hfr _ _ _ _ (n27 r12 (by omega))
        (try simp only [Act.put, List.setIfInBounds_toArray, List.set_cons_succ, List.set_cons_zero] at hn)
        exact wpAnyF_weaken (KD.perm (by simp)) hn
      refine AllF.cons ?_ ?_
      · refine stepK_alloc (zs := #[.int .i64 0, .int .i64 0]) (T := 25) (by rfl) (by rfl) (by rfl) (fun _ => by go_simp) (CB.closed _ _) (fun r13 hr13 hl13 hne => ?_)
        simp at hl13
        (try simp only [Act.put, List.setIfInBounds_toArray, List.set_cons_succ, List.set_cons_zero])
        have hn := hfr _ _ _ _ (n33 r12 r13 (by omega) (by omega) (by omega))
        (try simp only [Act.put, List.setIfInBounds_toArray, List.set_cons_succ, List.set_cons_zero] at hn)
        exact wpAnyF_weaken (KD.perm (by simp)) hn
      refine AllF.cons ?_ ?_
      · refine stepK_alloc (zs := #[.int .i64 0, .int .i64 0]) (T := 25) (by rfl) (by rfl) (by rfl) (fun _ => by go_simp) (CB.closed _ _) (fun r14 hr14 hl14 hne => ?_)
        simp at hl14
        (try simp only [Act.put, List.setIfInBounds_toArray, List.set_cons_succ, List.set_cons_zero])
        have hn := hfr _ _ _ _ (n34 r12 r14 (by omega) (by omega) (by omega))
        (try simp only [Act.put, List.setIfInBounds_toArray, List.set_cons_succ, List.set_cons_zero] at hn)
        exact wpAnyF_weaken (KD.perm (by simp)) hn
      exact AllF.nil
    have n36 : ∀ (r13 : Nat) (r14 : Nat) (hr13 : W.heap.size ≤ r13) (hr14 : W.heap.size ≤ r14) (hx14_13 : r14 ≠ r13), F 8 #[true, true, true, true, true, true, true, true, false, true, true, true, true, false, true, true, true, true, true, true, false, true, false, false, true, true, false, false, false] (((act0.put (some 51) (.agg #[.int .i64 x1, .int .i64 y1])).put (some 13) (.pointer (some ⟨r13, 0, none⟩))).put (some 14) (.pointer (some ⟨r14, 0, none⟩))) (KD (CB c o1) [(r13, #[.int .i64 0, .int .i64 0], 25), (r14, #[.int .i64 0, .int .i64 0], 25)]) := by
      intro r13 r14 hr13 hr14 hx14_13
      refine hto _ _ _ _ ?_
      subst hact
      (try simp only [Act.put, List.setIfInBounds_toArray, List.set_cons_succ, List.set_cons_zero])
      refine wpAnyF_ready [8, 23] 7 (by kernel_rfl) (by kernel_rfl) (by simp) ?_
      refine AllF.cons ?_ ?_
      · refine stepK_call (v := .agg #[.int .i64 x2, .int .i64 y2]) (some 53) (CB c o2) (by rfl) (by rfl) (by rfl) (fun _ => by go_simp) (CB.closed _ _) (by simp; omega) (fun w' hC => H2.out c w' hC) (fun hne => ?_)
        (try simp only [Act.put, List.setIfInBounds_toArray, List.set_cons_succ, List.set_cons_zero])
        have hn := hfr _ _ _ _ (n28 r13 r14 (by omega) (by omega) (by omega))
        (try simp only [Act.put, List.setIfInBounds_toArray, List.set_cons_succ, List.set_cons_zero] at hn)
        exact wpAnyF_weaken (KD.perm (by simp)) hn
      refine AllF.cons ?_ ?_
      · refine stepK_alloc (zs := #[.int .i64 0, .int .i64 0]) (T := 25) (by rfl) (by rfl) (by rfl) (fun _ => by go_simp) (CB.closed _ _) (fun r12 hr12 hl12 hne => ?_)
        simp at hl12
        (try simp only [Act.put, List.setIfInBounds_toArray, List.set_cons_succ, List.set_cons_zero])
        have hn := hfr _ _ _ _ (n32 r12 r13 r14 (by omega) (by omega) (by omega) (by omega) (by omega) (by omega))
        (try simp only [Act.put, List.setIfInBounds_toArray, List.set_cons_succ, List.set_cons_zero] at hn)
        exact wpAnyF_weaken (KD.perm (by simp)) hn
      exact AllF.nil
    have n37 : ∀ (r13 : Nat) (hr13 : W.heap.size ≤ r13), F 9 #[true, true, true, true, true, true, true, true, false, true, true, true, true, false, true, true, true, true, true, true, false, true, false, false, true, false, false, false, false] ((act0.put (some 51) (.agg #[.int .i64 x1, .int .i64 y1])).put (some 13) (.pointer (some ⟨r13, 0, none⟩))) (KD (CB c o1) [(r13, #[.int .i64 0, .int .i64 0], 25)]) := by
      intro r13 hr13
      refine hto _ _ _ _ ?_
      subst hact
      (try simp only [Act.put, List.setIfInBounds_toArray, List.set_cons_succ, List.set_cons_zero])
      refine wpAnyF_ready [8, 23, 25] 8 (by kernel_rfl) (by kernel_rfl) (by simp) ?_
      refine AllF.cons ?_ ?_
      · refine stepK_call (v := .agg #[.int .i64 x2, .int .i64 y2]) (some 53) (CB c o2) (by rfl) (by rfl) (by rfl) (fun _ => by go_simp) (CB.closed _ _) (by simp; omega) (fun w' hC => H2.out c w' hC) (fun hne => ?_)
        (try simp only [Act.put, List.setIfInBounds_toArray, List.set_cons_succ, List.set_cons_zero])
        have hn := hfr _ _ _ _ (n29 r13 (by omega))
        (try simp only [Act.put, List.setIfInBounds_toArray, List.set_cons_succ, List.set_cons_zero] at hn)
        exact wpAnyF_weaken (KD.perm (by simp)) hn
      refine AllF.cons ?_ ?_
      · refine stepK_alloc (zs := #[.int .i64 0, .int .i64 0]) (T := 25) (by rfl) (by rfl) (by rfl) (fun _ => by go_simp) (CB.closed _ _) (fun r12 hr12 hl12 hne => ?_)
        simp at hl12
        (try simp only [Act.put, List.setIfInBounds_toArray, List.set_cons_succ, List.set_cons_zero])
        have hn := hfr _ _ _ _ (n33 r12 r13 (by omega) (by omega) (by omega))
        (try simp only [Act.put, List.setIfInBounds_toArray, List.set_cons_succ, List.set_cons_zero] at hn)
        exact wpAnyF_weaken (KD.perm (by simp)) hn
      refine AllF.cons ?_ ?_
      · refine stepK_alloc (zs := #[.int .i64 0, .int .i64 0]) (T := 25) (by rfl) (by rfl) (by rfl) (fun _ => by go_simp) (CB.closed _ _) (fun r14 hr14 hl14 hne => ?_)
        simp at hl14
        (try simp only [Act.put, List.setIfInBounds_toArray, List.set_cons_succ, List.set_cons_zero])
        have hn := hfr _ _ _ _ (n36 r13 r14 (by omega) (by omega) (by omega))
        (try simp only [Act.put, List.setIfInBounds_toArray, List.set_cons_succ, List.set_cons_zero] at hn)
        exact wpAnyF_weaken (KD.perm (by simp)) hn
      exact AllF.nil
    have n38 : ∀ (r14 : Nat) (hr14 : W.heap.size ≤ r14), F 9 #[true, true, true, true, true, true, true, true, false, true, true, true, true, false, true, true, true, true, true, true, false, true, false, false, false, true, false, false, false] ((act0.put (some 51) (.agg #[.int .i64 x1, .int .i64 y1])).put (some 14) (.pointer (some ⟨r14, 0, none⟩))) (KD (CB c o1) [(r14, #[.int .i64 0, .int .i64 0], 25)]) := by
      intro r14 hr14
      refine hto _ _ _ _ ?_
      subst hact
      (try simp only [Act.put, List.setIfInBounds_toArray, List.set_cons_succ, List.set_cons_zero])
      refine wpAnyF_ready [8, 23, 24] 8 (by kernel_rfl) (by kernel_rfl) (by simp) ?_
      refine AllF.cons ?_ ?_
      · refine stepK_call (v := .agg #[.int .i64 x2, .int .i64 y2]) (some 53) (CB c o2) (by rfl) (by rfl) (by rfl) (fun _ => by go_simp) (CB.closed _ _) (by simp; omega) (fun w' hC => H2.out c w' hC) (fun hne => ?_)
        (try simp only [Act.put, List.setIfInBounds_toArray, List.set_cons_succ, List.set_cons_zero])
        have hn := hfr _ _ _ _ (n30 r14 (by omega))
        (try simp only [Act.put, List.setIfInBounds_toArray, List.set_cons_succ, List.set_cons_zero] at hn)
        exact wpAnyF_weaken (KD.perm (by simp)) hn
      refine AllF.cons ?_ ?_
      · refine stepK_alloc (zs := #[.int .i64 0, .int .i64 0]) (T := 25) (by rfl) (by rfl) (by rfl) (fun _ => by go_simp) (CB.closed _ _) (fun r12 hr12 hl12 hne => ?_)
        simp at hl12
        (try simp only [Act.put, List.setIfInBounds_toArray, List.set_cons_succ, List.set_cons_zero])
        have hn := hfr _ _ _ _ (n34 r12 r14 (by omega) (by omega) (by omega))
        (try simp only [Act.put, List.setIfInBounds_toArray, List.set_cons_succ, List.set_cons_zero] at hn)
        exact wpAnyF_weaken (KD.perm (by simp)) hn
      refine AllF.cons ?_ ?_
      · refine stepK_alloc (zs := #[.int .i64 0, .int .i64 0]) (T := 25) (by rfl) (by rfl) (by rfl) (fun _ => by go_simp) (CB.closed _ _) (fun r13 hr13 hl13 hne => ?_)
        simp at hl13
        (try simp only [Act.put, List.setIfInBounds_toArray, List.set_cons_succ, List.set_cons_zero])
        have hn := hfr _ _ _ _ (n36 r13 r14 (by omega) (by omega) (by omega))
        (try simp only [Act.put, List.setIfInBounds_toArray, List.set_cons_succ, List.set_cons_zero] at hn)
        exact wpAnyF_weaken (KD.perm (by simp)) hn
      exact AllF.nil
    have n39 : ∀ (_ : True), F 10 #[true, true, true, true, true, true, true, true, false, true, true, true, true, false, true, true, true, true, true, true, false, true, false, false, false, false, false, false, false] (act0.put (some 51) (.agg #[.int .i64 x1, .int .i64 y1])) (KD (CB c o1) []) := by
      intro _
      refine hto _ _ _ _ ?_
      subst hact
      (try simp only [Act.put, List.setIfInBounds_toArray, List.set_cons_succ, List.set_cons_zero])
      refine wpAnyF_ready [8, 23, 24, 25] 9 (by kernel_rfl) (by kernel_rfl) (by simp) ?_
      refine AllF.cons ?_ ?_
      · refine stepK_call (v := .agg #[.int .i64 x2, .int .i64 y2]) (some 53) (CB c o2) (by rfl) (by rfl) (by rfl) (fun _ => by go_simp) (CB.closed _ _) (fun x hx => by cases hx) (fun w' hC => H2.out c w' hC) (fun hne => ?_)
        (try simp only [Act.put, List.setIfInBounds_toArray, List.set_cons_succ, List.set_cons_zero])
        have hn := hfr _ _ _ _ (n31 trivial)
        (try simp only [Act.put, List.setIfInBounds_toArray, List.set_cons_succ, List.set_cons_zero] at hn)
        exact wpAnyF_weaken (KD.perm (by simp)) hn
      refine AllF.cons ?_ ?_
      · refine stepK_alloc (zs := #[.int .i64 0, .int .i64 0]) (T := 25) (by rfl) (by rfl) (by rfl) (fun _ => by go_simp) (CB.closed _ _) (fun r12 hr12 hl12 hne => ?_)
        (try simp only [Act.put, List.setIfInBounds_toArray, List.set_cons_succ, List.set_cons_zero])
        have hn := hfr _ _ _ _ (n35 r12 (by omega))
        (try simp only [Act.put, List.setIfInBounds_toArray, List.set_cons_succ, List.set_cons_zero] at hn)
        exact wpAnyF_weaken (KD.perm (by simp)) hn
      refine AllF.cons ?_ ?_
      · refine stepK_alloc (zs := #[.int .i64 0, .int .i64 0]) (T := 25) (by rfl) (by rfl) (by rfl) (fun _ => by go_simp) (CB.closed _ _) (fun r13 hr13 hl13 hne => ?_)
        (try simp only [Act.put, List.setIfInBounds_toArray, List.set_cons_succ, List.set_cons_zero])
        have hn := hfr _ _ _ _ (n37 r13 (by omega))
        (try simp only [Act.put, List.setIfInBounds_toArray, List.set_cons_succ, List.set_cons_zero] at hn)
        exact wpAnyF_weaken (KD.perm (by simp)) hn
      refine AllF.cons ?_ ?_
      · refine stepK_alloc (zs := #[.int .i64 0, .int .i64 0]) (T := 25) (by rfl) (by rfl) (by rfl) (fun _ => by go_simp) (CB.closed _ _) (fun r14 hr14 hl14 hne => ?_)
        (try simp only [Act.put, List.setIfInBounds_toArray, List.set_cons_succ, List.set_cons_zero])
        have hn := hfr _ _ _ _ (n38 r14 (by omega))
        (try simp only [Act.put, List.setIfInBounds_toArray, List.set_cons_succ, List.set_cons_zero] at hn)
        exact wpAnyF_weaken (KD.perm (by simp)) hn
      exact AllF.nil
    have n40 : ∀ (r12 : Nat) (r13 : Nat) (r14 : Nat) (hr12 : W.heap.size ≤ r12) (hr13 : W.heap.size ≤ r13) (hr14 : W.heap.size ≤ r14) (hx13_12 : r13 ≠ r12) (hx14_12 : r14 ≠ r12) (hx14_13 : r14 ≠ r13), F 8 #[true, true, true, true, true, true, false, true, false, true, true, true, true, false, true, true, true, true, true, true, false, true, false, true, true, true, false, false, false] (((act0.put (some 12) (.pointer (some ⟨r12, 0, none⟩))).put (some 13) (.pointer (some ⟨r13, 0, none⟩))).put (some 14) (.pointer (some ⟨r14, 0, none⟩))) (KD (CB c true) [(r12, #[.int .i64 0, .int .i64 0], 25), (r13, #[.int .i64 0, .int .i64 0], 25), (r14, #[.int .i64 0, .int .i64 0], 25)]) := by
      intro r12 r13 r14 hr12 hr13 hr14 hx13_12 hx14_12 hx14_13
      refine hto _ _ _ _ ?_
      subst hact
      (try simp only [Act.put, List.setIfInBounds_toArray, List.set_cons_succ, List.set_cons_zero])
      refine wpAnyF_ready [6] 7 (by kernel_rfl) (by kernel_rfl) (by simp) ?_
      refine AllF.cons ?_ ?_
      · refine stepK_call (v := .agg #[.int .i64 x1, .int .i64 y1]) (some 51) (CB c o1) (by rfl) (by rfl) (by rfl) (fun _ => by go_simp) (CB.closed _ _) (by simp; omega) (fun w' hC => H1.out c w' hC) (fun hne => ?_)
        (try simp only [Act.put, List.setIfInBounds_toArray, List.set_cons_succ, List.set_cons_zero])
        have hn := hfr _ _ _ _ (n32 r12 r13 r14 (by omega) (by omega) (by omega) (by omega) (by omega) (by omega))
        (try simp only [Act.put, List.setIfInBounds_toArray, List.set_cons_succ, List.set_cons_zero] at hn)
        exact wpAnyF_weaken (KD.perm (by simp)) hn
      exact AllF.nil
    have n41 : ∀ (r12 : Nat) (r13 : Nat) (hr12 : W.heap.size ≤ r12) (hr13 : W.heap.size ≤ r13) (hx13_12 : r13 ≠ r12), F 9 #[true, true, true, true, true, true, false, true, false, true, true, true, true, false, true, true, true, true, true, true, false, true, false, true, true, false, false, false, false] ((act0.put (some 12) (.pointer (some ⟨r12, 0, none⟩))).put (some 13) (.pointer (some ⟨r13, 0, none⟩))) (KD (CB c true) [(r12, #[.int .i64 0, .int .i64 0], 25), (r13, #[.int .i64 0, .int .i64 0], 25)]) := by
      intro r12 r13 hr12 hr13 hx13_12
      refine hto _ _ _ _ ?_
      subst hact
      (try simp only [Act.put, List.setIfInBounds_toArray, List.set_cons_succ, List.set_cons_zero])
      refine wpAnyF_ready [6, 25] 8 (by kernel_rfl) (by kernel_rfl) (by simp) ?_
      refine AllF.cons ?_ ?_
      · refine stepK_call (v := .agg #[.int .i64 x1, .int .i64 y1]) (some 51) (CB c o1) (by rfl) (by rfl) (by rfl) (fun _ => by go_simp) (CB.closed _ _) (by simp; omega) (fun w' hC => H1.out c w' hC) (fun hne => ?_)
        (try simp only [Act.put, List.setIfInBounds_toArray, List.set_cons_succ, List.set_cons_zero])
        have hn := hfr _ _ _ _ (n33 r12 r13 (by omega) (by omega) (by omega))
        (try simp only [Act.put, List.setIfInBounds_toArray, List.set_cons_succ, List.set_cons_zero] at hn)
        exact wpAnyF_weaken (KD.perm (by simp)) hn
      refine AllF.cons ?_ ?_
      · refine stepK_alloc (zs := #[.int .i64 0, .int .i64 0]) (T := 25) (by rfl) (by rfl) (by rfl) (fun _ => by go_simp) (CB.closed _ _) (fun r14 hr14 hl14 hne => ?_)
        simp at hl14
        (try simp only [Act.put, List.setIfInBounds_toArray, List.set_cons_succ, List.set_cons_zero])
        have hn := hfr _ _ _ _ (n40 r12 r13 r14 (by omega) (by omega) (by omega) (by omega) (by omega) (by omega))
        (try simp only [Act.put, List.setIfInBounds_toArray, List.set_cons_succ, List.set_cons_zero] at hn)
        exact wpAnyF_weaken (KD.perm (by simp)) hn
      exact AllF.nil
    have n42 : ∀ (r12 : Nat) (r14 : Nat) (hr12 : W.heap.size ≤ r12) (hr14 : W.heap.size ≤ r14) (hx14_12 : r14 ≠ r12), F 9 #[true, true, true, true, true, true, false, true, false, true, true, true, true, false, true, true, true, true, true, true, false, true, false, true, false, true, false, false, false] ((act0.put (some 12) (.pointer (some ⟨r12, 0, none⟩))).put (some 14) (.pointer (some ⟨r14, 0, none⟩))) (KD (CB c true) [(r12, #[.int .i64 0, .int .i64 0], 25), (r14, #[.int .i64 0, .int .i64 0], 25)]) := by
      intro r12 r14 hr12 hr14 hx14_12
      refine hto _ _ _ _ ?_
      subst hact
      (try simp only [Act.put, List.setIfInBounds_toArray, List.set_cons_succ, List.set_cons_zero])
      refine wpAnyF_ready [6, 24] 8 (by kernel_rfl) (by kernel_rfl) (by simp) ?_
      refine AllF.cons ?_ ?_
      · refine stepK_call (v := .agg #[.int .i64 x1, .int .i64 y1]) (some 51) (CB c o1) (by rfl) (by rfl) (by rfl) (fun _ => by go_simp) (CB.closed _ _) (by simp; omega) (fun w' hC => H1.out c w' hC) (fun hne => ?_)
        (try simp only [Act.put, List.setIfInBounds_toArray, List.set_cons_succ, List.set_cons_zero])
        have hn := hfr _ _ _ _ (n34 r12 r14 (by omega) (by omega) (by omega))
        (try simp only [Act.put, List.setIfInBounds_toArray, List.set_cons_succ, List.set_cons_zero] at hn)
        exact wpAnyF_weaken (KD.perm (by simp)) hn
      refine AllF.cons ?_ ?_
      · refine stepK_alloc (zs := #[.int .i64 0, .int .i64 0]) (T := 25) (by rfl) (by rfl) (by rfl) (fun _ => by go_simp) (CB.closed _ _) (fun r13 hr13 hl13 hne => ?_)
        simp at hl13
        (try simp only [Act.put, List.setIfInBounds_toArray, List.set_cons_succ, List.set_cons_zero])
        have hn := hfr _ _ _ _ (n40 r12 r13 r14 (by omega) (by omega) (by omega) (by omega) (by omega) (by omega))
        (try simp only [Act.put, List.setIfInBounds_toArray, List.set_cons_succ, List.set_cons_zero] at hn)
        exact wpAnyF_weaken (KD.perm (by simp)) hn
      exact AllF.nil
    have n43 : ∀ (r12 : Nat) (hr12 : W.heap.size ≤ r12), F 10 #[true, true, true, true, true, true, false, true, false, true, true, true, true, false, true, true, true, true, true, true, false, true, false, true, false, false, false, false, false] (act0.put (some 12) (.pointer (some ⟨r12, 0, none⟩))) (KD (CB c true) [(r12, #[.int .i64 0, .int .i64 0], 25)]) := by
      intro r12 hr12
      refine hto _ _ _ _ ?_
      subst hact
      (try simp only [Act.put, List.setIfInBounds_toArray, List.set_cons_succ, List.set_cons_zero])
      refine wpAnyF_ready [6, 24, 25] 9 (by kernel_rfl) (by kernel_rfl) (by simp) ?_
      refine AllF.cons ?_ ?_
      · refine stepK_call (v := .agg #[.int .i64 x1, .int .i64 y1]) (some 51) (CB c o1) (by rfl) (by rfl) (by rfl) (fun _ => by go_simp) (CB.closed _ _) (by simp; omega) (fun w' hC => H1.out c w' hC) (fun hne => ?_)
        (try simp only [Act.put, List.setIfInBounds_toArray, List.set_cons_succ, List.set_cons_zero])
        have hn := hfr _ _ _ _ (n35 r12 (by omega))
        (try simp only [Act.put, List.setIfInBounds_toArray, List.set_cons_succ, List.set_cons_zero] at hn)
        exact wpAnyF_weaken (KD.perm (by simp)) hn
      refine AllF.cons ?_ ?_
      · refine stepK_alloc (zs := #[.int .i64 0, .int .i64 0]) (T := 25) (by rfl) (by rfl) (by rfl) (fun _ => by go_simp) (CB.closed _ _) (fun r13 hr13 hl13 hne => ?_)
        simp at hl13
        (try simp only [Act.put, List.setIfInBounds_toArray, List.set_cons_succ, List.set_cons_zero])
        have hn := hfr _ _ _ _ (n41 r12 r13 (by omega) (by omega) (by omega))
        (try simp only [Act.put, List.setIfInBounds_toArray, List.set_cons_succ, List.set_cons_zero] at hn)
        exact wpAnyF_weaken (KD.perm (by simp)) hn
      refine AllF.cons ?_ ?_
      · refine stepK_alloc (zs := #[.int .i64 0, .int .i64 0]) (T := 25) (by rfl) (by rfl) (by rfl) (fun _ => by go_simp) (CB.closed _ _) (fun r14 hr14 hl14 hne => ?_)
        simp at hl14
        (try simp only [Act.put, List.setIfInBounds_toArray, List.set_cons_succ, List.set_cons_zero])
        have hn := hfr _ _ _ _ (n42 r12 r14 (by omega) (by omega) (by omega))
        (try simp only [Act.put, List.setIfInBounds_toArray, List.set_cons_succ, List.set_cons_zero] at hn)
        exact wpAnyF_weaken (KD.perm (by simp)) hn
      exact AllF.nil
    have n44 : ∀ (r13 : Nat) (r14 : Nat) (hr13 : W.heap.size ≤ r13) (hr14 : W.heap.size ≤ r14) (hx14_13 : r14 ≠ r13), F 9 #[true, true, true, true, true, true, false, true, false, true, true, true, true, false, true, true, true, true, true, true, false, true, false, false, true, true, false, false, false] ((act0.put (some 13) (.pointer (some ⟨r13, 0, none⟩))).put (some 14) (.pointer (some ⟨r14, 0, none⟩))) (KD (CB c true) [(r13, #[.int .i64 0, .int .i64 0], 25), (r14, #[.int .i64 0, .int .i64 0], 25)]) := by
      intro r13 r14 hr13 hr14 hx14_13
      refine hto _ _ _ _ ?_
      subst hact
      (try simp only [Act.put, List.setIfInBounds_toArray, List.set_cons_succ, List.set_cons_zero])
      refine wpAnyF_ready [6, 23] 8 (by kernel_rfl) (by kernel_rfl) (by simp) ?_
      refine AllF.cons ?_ ?_
      · refine stepK_call (v := .agg #[.int .i64 x1, .int .i64 y1]) (some 51) (CB c o1) (by rfl) (by rfl) (by rfl) (fun _ => by go_simp) (CB.closed _ _) (by simp; omega) (fun w' hC => H1.out c w' hC) (fun hne => ?_)
        (try simp only [Act.put, List.setIfInBounds_toArray, List.set_cons_succ, List.set_cons_zero])
        have hn := hfr _ _ _ _ (n36 r13 r14 (by omega) (by omega) (by omega))
        (try simp only [Act.put, List.setIfInBounds_toArray, List.set_cons_succ, List.set_cons_zero] at hn)
        exact wpAnyF_weaken (KD.perm (by simp)) hn
      refine AllF.cons ?_ ?_
      · refine stepK_alloc (zs := #[.int .i64 0, .int .i64 0]) (T := 25) (by rfl) (by rfl) (by rfl) (fun _ => by go_simp) (CB.closed _ _) (fun r12 hr12 hl12 hne => ?_)
        simp at hl12
        (try simp only [Act.put, List.setIfInBounds_toArray, List.set_cons_succ, List.set_cons_zero])
        have hn := hfr _ _ _ _ (n40 r12 r13 r14 (by omega) (by omega) (by omega) (by omega) (by omega) (by omega))
        (try simp only [Act.put, List.setIfInBounds_toArray, List.set_cons_succ, List.set_cons_zero] at hn)
        exact wpAnyF_weaken (KD.perm (by simp)) hn
      exact AllF.nil
    have n45 : ∀ (r13 : Nat) (hr13 : W.heap.size ≤ r13), F 10 #[true, true, true, true, true, true, false, true, false, true, true, true, true, false, true, true, true, true, true, true, false, true, false, false, true, false, false, false, false] (act0.put (some 13) (.pointer (some ⟨r13, 0, none⟩))) (KD (CB c true) [(r13, #[.int .i64 0, .int .i64 0], 25)]) := by
      intro r13 hr13
      refine hto _ _ _ _ ?_
      subst hact
      (try simp only [Act.put, List.setIfInBounds_toArray, List.set_cons_succ, List.set_cons_zero])
      refine wpAnyF_ready [6, 23, 25] 9 (by kernel_rfl) (by kernel_rfl) (by simp) ?_
      refine AllF.cons ?_ ?_
      · refine stepK_call (v := .agg #[.int .i64 x1, .int .i64 y1]) (some 51) (CB c o1) (by rfl) (by rfl) (by rfl) (fun _ => by go_simp) (CB.closed _ _) (by simp; omega) (fun w' hC => H1.out c w' hC) (fun hne => ?_)
        (try simp only [Act.put, List.setIfInBounds_toArray, List.set_cons_succ, List.set_cons_zero])
        have hn := hfr _ _ _ _ (n37 r13 (by omega))
        (try simp only [Act.put, List.setIfInBounds_toArray, List.set_cons_succ, List.set_cons_zero] at hn)
        exact wpAnyF_weaken (KD.perm (by simp)) hn
      refine AllF.cons ?_ ?_
      · refine stepK_alloc (zs := #[.int .i64 0, .int .i64 0]) (T := 25) (by rfl) (by rfl) (by rfl) (fun _ => by go_simp) (CB.closed _ _) (fun r12 hr12 hl12 hne => ?_)
        simp at hl12
        (try simp only [Act.put, List.setIfInBounds_toArray, List.set_cons_succ, List.set_cons_zero])
        have hn := hfr _ _ _ _ (n41 r12 r13 (by omega) (by omega) (by omega))
        (try simp only [Act.put, List.setIfInBounds_toArray, List.set_cons_succ, List.set_cons_zero] at hn)
        exact wpAnyF_weaken (KD.perm (by simp)) hn
      refine AllF.cons ?_ ?_
      · refine stepK_alloc (zs := #[.int .i64 0, .int .i64 0]) (T := 25) (by rfl) (by rfl) (by rfl) (fun _ => by go_simp) (CB.closed _ _) (fun r14 hr14 hl14 hne => ?_)
        simp at hl14
        (try simp only [Act.put, List.setIfInBounds_toArray, List.set_cons_succ, List.set_cons_zero])
        have hn := hfr _ _ _ _ (n44 r13 r14 (by omega) (by omega) (by omega))
        (try simp only [Act.put, List.setIfInBounds_toArray, List.set_cons_succ, List.set_cons_zero] at hn)
        exact wpAnyF_weaken (KD.perm (by simp)) hn
      exact AllF.nil
    have n46 : ∀ (r14 : Nat) (hr14 : W.heap.size ≤ r14), F 10 #[true, true, true, true, true, true, false, true, false, true, true, true, true, false, true, true, true, true, true, true, false, true, false, false, false, true, false, false, false] (act0.put (some 14) (.pointer (some ⟨r14, 0, none⟩))) (KD (CB c true) [(r14, #[.int .i64 0, .int .i64 0], 25)]) := by
      intro r14 hr14
      refine hto _ _ _ _ ?_
      subst hact
      (try simp only [Act.put, List.setIfInBounds_toArray, List.set_cons_succ, List.set_cons_zero])
      refine wpAnyF_ready [6, 23, 24] 9 (by kernel_rfl) (by kernel_rfl) (by simp) ?_
      refine AllF.cons ?_ ?_
      · refine stepK_call (v := .agg #[.int .i64 x1, .int .i64 y1]) (some 51) (CB c o1) (by rfl) (by rfl) (by rfl) (fun _ => by go_simp) (CB.closed _ _) (by simp; omega) (fun w' hC => H1.out c w' hC) (fun hne => ?_)
        (try simp only [Act.put, List.setIfInBounds_toArray, List.set_cons_succ, List.set_cons_zero])
        have hn := hfr _ _ _ _ (n38 r14 (by omega))
        (try simp only [Act.put, List.setIfInBounds_toArray, List.set_cons_succ, List.set_cons_zero] at hn)
        exact wpAnyF_weaken (KD.perm (by simp)) hn
      refine AllF.cons ?_ ?_
      · refine stepK_alloc (zs := #[.int .i64 0, .int .i64 0]) (T := 25) (by rfl) (by rfl) (by rfl) (fun _ => by go_simp) (CB.closed _ _) (fun r12 hr12 hl12 hne => ?_)
        simp at hl12
        (try simp only [Act.put, List.setIfInBounds_toArray, List.set_cons_succ, List.set_cons_zero])
        have hn := hfr _ _ _ _ (n42 r12 r14 (by omega) (by omega) (by omega))
        (try simp only [Act.put, List.setIfInBounds_toArray, List.set_cons_succ, List.set_cons_zero] at hn)
        exact wpAnyF_weaken (KD.perm (by simp)) hn
      refine AllF.cons ?_ ?_
      · refine stepK_alloc (zs := #[.int .i64 0, .int .i64 0]) (T := 25) (by rfl) (by rfl) (by rfl) (fun _ => by go_simp) (CB.closed _ _) (fun r13 hr13 hl13 hne => ?_)
        simp at hl13
        (try simp only [Act.put, List.setIfInBounds_toArray, List.set_cons_succ, List.set_cons_zero])
        have hn := hfr _ _ _ _ (n44 r13 r14 (by omega) (by omega) (by omega))
        (try simp only [Act.put, List.setIfInBounds_toArray, List.set_cons_succ, List.set_cons_zero] at hn)
        exact wpAnyF_weaken (KD.perm (by simp)) hn
      exact AllF.nil
    have n47 : ∀ (_ : True), F 11 #[true, true, true, true, true, true, false, true, false, true, true, true, true, false, true, true, true, true, true, true, false, true, false, false, false, false, false, false, false] act0 (KD (CB c true) []) := by
      intro _
      refine hto _ _ _ _ ?_
      subst hact
      (try simp only [Act.put, List.setIfInBounds_toArray, List.set_cons_succ, List.set_cons_zero])
      refine wpAnyF_ready [6, 23, 24, 25] 10 (by kernel_rfl) (by kernel_rfl) (by simp) ?_
      refine AllF.cons ?_ ?_
      · refine stepK_call (v := .agg #[.int .i64 x1, .int .i64 y1]) (some 51) (CB c o1) (by rfl) (by rfl) (by rfl) (fun _ => by go_simp) (CB.closed _ _) (fun x hx => by cases hx) (fun w' hC => H1.out c w' hC) (fun hne => ?_)
        (try simp only [Act.put, List.setIfInBounds_toArray, List.set_cons_succ, List.set_cons_zero])
        have hn := hfr _ _ _ _ (n39 trivial)
        (try simp only [Act.put, List.setIfInBounds_toArray, List.set_cons_succ, List.set_cons_zero] at hn)
        exact wpAnyF_weaken (KD.perm (by simp)) hn
      refine AllF.cons ?_ ?_
      · refine stepK_alloc (zs := #[.int .i64 0, .int .i64 0]) (T := 25) (by rfl) (by rfl) (by rfl) (fun _ => by go_simp) (CB.closed _ _) (fun r12 hr12 hl12 hne => ?_)
        (try simp only [Act.put, List.setIfInBounds_toArray, List.set_cons_succ, List.set_cons_zero])
        have hn := hfr _ _ _ _ (n43 r12 (by omega))
        (try simp only [Act.put, List.setIfInBounds_toArray, List.set_cons_succ, List.set_cons_zero] at hn)
        exact wpAnyF_weaken (KD.perm (by simp)) hn
      refine AllF.cons ?_ ?_
      · refine stepK_alloc (zs := #[.int .i64 0, .int .i64 0]) (T := 25) (by rfl) (by rfl) (by rfl) (fun _ => by go_simp) (CB.closed _ _) (fun r13 hr13 hl13 hne => ?_)
        (try simp only [Act.put, List.setIfInBounds_toArray, List.set_cons_succ, List.set_cons_zero])
        have hn := hfr _ _ _ _ (n45 r13 (by omega))
        (try simp only [Act.put, List.setIfInBounds_toArray, List.set_cons_succ, List.set_cons_zero] at hn)
        exact wpAnyF_weaken (KD.perm (by simp)) hn
      refine AllF.cons ?_ ?_
      · refine stepK_alloc (zs := #[.int .i64 0, .int .i64 0]) (T := 25) (by rfl) (by rfl) (by rfl) (fun _ => by go_simp) (CB.closed _ _) (fun r14 hr14 hl14 hne => ?_)
        (try simp only [Act.put, List.setIfInBounds_toArray, List.set_cons_succ, List.set_cons_zero])
        have hn := hfr _ _ _ _ (n46 r14 (by omega))
        (try simp only [Act.put, List.setIfInBounds_toArray, List.set_cons_succ, List.set_cons_zero] at hn)
        exact wpAnyF_weaken (KD.perm (by simp)) hn
      exact AllF.nil
    exact n47 trivial
  try dsimp only
  rintro r12 r13 r14 W7 ⟨hO7, kc7, h12, h13, h14, d1, d2, d3, k12, k13, k14⟩
  replace kA := kA.over hO7 nA
  replace kB := kB.over hO7 nB
  replace kC := kC.over hO7 nC
  have hB7 : Below w.heap.size w W7 := hO7.belowGe hB6 hB6.size (by simp; omega)
  have q7 := kc7.1
  have hs7 := hB7.size
  have kA0 : (W7).cell? ⟨w.heap.size + 1, 0, none⟩ = some (.int .i64 0) := kA.cell 0; have kA1 : (W7).cell? ⟨w.heap.size + 1, 1, none⟩ = some (.int .i64 0) := kA.cell 1; have kAf0 : (W7).frozen? ⟨w.heap.size + 1, 0, none⟩ = false := kA.frozen 0; have kAf1 : (W7).frozen? ⟨w.heap.size + 1, 1, none⟩ = false := kA.frozen 1; have kAl : w.heap.size + 1 < (W7).heap.size := kA.lt
  have kB0 : (W7).cell? ⟨w.heap.size + 1 + 1, 0, none⟩ = some (.int .i64 0) := kB.cell 0; have kB1 : (W7).cell? ⟨w.heap.size + 1 + 1, 1, none⟩ = some (.int .i64 0) := kB.cell 1; have kBf0 : (W7).frozen? ⟨w.heap.size + 1 + 1, 0, none⟩ = false := kB.frozen 0; have kBf1 : (W7).frozen? ⟨w.heap.size + 1 + 1, 1, none⟩ = false := kB.frozen 1; have kBl : w.heap.size + 1 + 1 < (W7).heap.size := kB.lt
  have kC0 : (W7).cell? ⟨w.heap.size + 1 + 1 + 1, 0, none⟩ = some (.int .i64 0) := kC.cell 0; have kC1 : (W7).cell? ⟨w.heap.size + 1 + 1 + 1, 1, none⟩ = some (.int .i64 0) := kC.cell 1; have kCf0 : (W7).frozen? ⟨w.heap.size + 1 + 1 + 1, 0, none⟩ = false := kC.frozen 0; have kCf1 : (W7).frozen? ⟨w.heap.size + 1 + 1 + 1, 1, none⟩ = false := kC.frozen 1; have kCl : w.heap.size + 1 + 1 + 1 < (W7).heap.size := kC.lt
  have k120 : (W7).cell? ⟨r12, 0, none⟩ = some (.int .i64 x2) := k12.cell 0; have k121 : (W7).cell? ⟨r12, 1, none⟩ = some (.int .i64 y2) := k12.cell 1; have k12l : r12 < (W7).heap.size := k12.lt
  have k130 : (W7).cell? ⟨r13, 0, none⟩ = some (.int .i64 x3) := k13.cell 0; have k131 : (W7).cell? ⟨r13, 1, none⟩ = some (.int .i64 y3) := k13.cell 1; have k13l : r13 < (W7).heap.size := k13.lt
  have k140 : (W7).cell? ⟨r14, 0, none⟩ = some (.int .i64 x5) := k14.cell 0; have k141 : (W7).cell? ⟨r14, 1, none⟩ = some (.int .i64 y5) := k14.cell 1; have k14l : r14 < (W7).heap.size := k14.lt
  have e12 : r12 ≠ w.heap.size + 1 ∧ r12 ≠ w.heap.size + 1 + 1 ∧ r12 ≠ w.heap.size + 1 + 1 + 1 := by omega
  have e13 : r13 ≠ w.heap.size + 1 ∧ r13 ≠ w.heap.size + 1 + 1 ∧ r13 ≠ w.heap.size + 1 + 1 + 1 := by omega
  have e14 : r14 ≠ w.heap.size + 1 ∧ r14 ≠ w.heap.size + 1 + 1 ∧ r14 ≠ w.heap.size + 1 + 1 + 1 := by omega
  clear hO7 kT kD kT0 kT1 kT2 kT3 kT4 kT5 kTl kD0 kD1 kDl HI H0 H1 H2 H3 H4 H5 HG HF kc7 hB6 kc6
  cases o5
  · go_wp2
    have RA := ((((((kA.set 0 (.int .i64 0)).set 1 (.int .i64 0)).far (p := ⟨w.heap.size + 1 + 1, 0, none⟩) (by show _ ≠ w.heap.size + 1 + 1; omega) (.int .i64 0)).far (p := ⟨w.heap.size + 1 + 1, 1, none⟩) (by show _ ≠ w.heap.size + 1 + 1; omega) (.int .i64 0)).far (p := ⟨w.heap.size + 1 + 1 + 1, 0, none⟩) (by show _ ≠ w.heap.size + 1 + 1 + 1; omega) (.int .i64 0)).far (p := ⟨w.heap.size + 1 + 1 + 1, 1, none⟩) (by show _ ≠ w.heap.size + 1 + 1 + 1; omega) (.int .i64 0))
    have RB := ((((((kB.far (p := ⟨w.heap.size + 1, 0, none⟩) (by show _ ≠ w.heap.size + 1; omega) (.int .i64 0)).far (p := ⟨w.heap.size + 1, 1, none⟩) (by show _ ≠ w.heap.size + 1; omega) (.int .i64 0)).set 0 (.int .i64 0)).set 1 (.int .i64 0)).far (p := ⟨w.heap.size + 1 + 1 + 1, 0, none⟩) (by show _ ≠ w.heap.size + 1 + 1 + 1; omega) (.int .i64 0)).far (p := ⟨w.heap.size + 1 + 1 + 1, 1, none⟩) (by show _ ≠ w.heap.size + 1 + 1 + 1; omega) (.int .i64 0))
    have RC := ((((((kC.far (p := ⟨w.heap.size + 1, 0, none⟩) (by show _ ≠ w.heap.size + 1; omega) (.int .i64 0)).far (p := ⟨w.heap.size + 1, 1, none⟩) (by show _ ≠ w.heap.size + 1; omega) (.int .i64 0)).far (p := ⟨w.heap.size + 1 + 1, 0, none⟩) (by show _ ≠ w.heap.size + 1 + 1; omega) (.int .i64 0)).far (p := ⟨w.heap.size + 1 + 1, 1, none⟩) (by show _ ≠ w.heap.size + 1 + 1; omega) (.int .i64 0)).set 0 (.int .i64 0)).set 1 (.int .i64 0))
    have hR : Below w.heap.size w ((((((W7.setCell ⟨w.heap.size + 1, 0, none⟩ (.int .i64 0)).setCell ⟨w.heap.size + 1, 1, none⟩ (.int .i64 0)).setCell ⟨w.heap.size + 1 + 1, 0, none⟩ (.int .i64 0)).setCell ⟨w.heap.size + 1 + 1, 1, none⟩ (.int .i64 0)).setCell ⟨w.heap.size + 1 + 1 + 1, 0, none⟩ (.int .i64 0)).setCell ⟨w.heap.size + 1 + 1 + 1, 1, none⟩ (.int .i64 0)) := by (repeat' (first | (with_reducible exact Below.refl _ _) | (with_reducible refine below_step (by assumption) ?_ ?_) | (with_reducible refine Below.alloc ?_ ?_ _) | (with_reducible refine Below.setCell ?_ ?_ _) | (with_reducible refine below_drewN ?_ _) | (with_reducible refine Below.drew ?_) | omega | (simp; omega) | (simp; done)))
    simp only [List.setIfInBounds_toArray, List.set_cons_zero, List.set_cons_succ] at RA RB RC
    clear kA kB kC hB7 kA0 kA1 kAf0 kAf1 kAl kB0 kB1 kBf0 kBf1 kBl kC0 kC1 kCf0 kCf1 kCl
    generalize ((((((W7.setCell ⟨w.heap.size + 1, 0, none⟩ (.int .i64 0)).setCell ⟨w.heap.size + 1, 1, none⟩ (.int .i64 0)).setCell ⟨w.heap.size + 1 + 1, 0, none⟩ (.int .i64 0)).setCell ⟨w.heap.size + 1 + 1, 1, none⟩ (.int .i64 0)).setCell ⟨w.heap.size + 1 + 1 + 1, 0, none⟩ (.int .i64 0)).setCell ⟨w.heap.size + 1 + 1 + 1, 1, none⟩ (.int .i64 0)) = W9 at RA RB RC hR ⊢
    have RA0 : (W9).cell? ⟨w.heap.size + 1, 0, none⟩ = some (.int .i64 0) := RA.cell 0; have RA1 : (W9).cell? ⟨w.heap.size + 1, 1, none⟩ = some (.int .i64 0) := RA.cell 1; have RAl : w.heap.size + 1 < (W9).heap.size := RA.lt
    have RB0 : (W9).cell? ⟨w.heap.size + 1 + 1, 0, none⟩ = some (.int .i64 0) := RB.cell 0; have RB1 : (W9).cell? ⟨w.heap.size + 1 + 1, 1, none⟩ = some (.int .i64 0) := RB.cell 1; have RBl : w.heap.size + 1 + 1 < (W9).heap.size := RB.lt
    have RC0 : (W9).cell? ⟨w.heap.size + 1 + 1 + 1, 0, none⟩ = some (.int .i64 0) := RC.cell 0; have RC1 : (W9).cell? ⟨w.heap.size + 1 + 1 + 1, 1, none⟩ = some (.int .i64 0) := RC.cell 1; have RCl : w.heap.size + 1 + 1 + 1 < (W9).heap.size := RC.lt
    refine bodyPost_ret (v := .tuple #[.agg #[.int .i64 0, .int .i64 0], .agg #[.int .i64 0, .int .i64 0], .agg #[.int .i64 0, .int .i64 0], .bool false]) (by simp [results, Try.results14, go_sem, RA0, RA1, RB0, RB1, RC0, RC1]) rfl ?_
    exact fr3P_no rfl hR
  · go_wp2
    go_big_region
    all_goals go_wp2
    have RA := ((((((kA.set 0 (.int .i64 x2)).set 1 (.int .i64 y2)).far (p := ⟨w.heap.size + 1 + 1, 0, none⟩) (by show _ ≠ w.heap.size + 1 + 1; omega) (.int .i64 x3)).far (p := ⟨w.heap.size + 1 + 1, 1, none⟩) (by show _ ≠ w.heap.size + 1 + 1; omega) (.int .i64 y3)).far (p := ⟨w.heap.size + 1 + 1 + 1, 0, none⟩) (by show _ ≠ w.heap.size + 1 + 1 + 1; omega) (.int .i64 x5)).far (p := ⟨w.heap.size + 1 + 1 + 1, 1, none⟩) (by show _ ≠ w.heap.size + 1 + 1 + 1; omega) (.int .i64 y5))
    have RB := ((((((kB.far (p := ⟨w.heap.size + 1, 0, none⟩) (by show _ ≠ w.heap.size + 1; omega) (.int .i64 x2)).far (p := ⟨w.heap.size + 1, 1, none⟩) (by show _ ≠ w.heap.size + 1; omega) (.int .i64 y2)).set 0 (.int .i64 x3)).set 1 (.int .i64 y3)).far (p := ⟨w.heap.size + 1 + 1 + 1, 0, none⟩) (by show _ ≠ w.heap.size + 1 + 1 + 1; omega) (.int .i64 x5)).far (p := ⟨w.heap.size + 1 + 1 + 1, 1, none⟩) (by show _ ≠ w.heap.size + 1 + 1 + 1; omega) (.int .i64 y5))
    have RC := ((((((kC.far (p := ⟨w.heap.size + 1, 0, none⟩) (by show _ ≠ w.heap.size + 1; omega) (.int .i64 x2)).far (p := ⟨w.heap.size + 1, 1, none⟩) (by show _ ≠ w.heap.size + 1; omega) (.int .i64 y2)).far (p := ⟨w.heap.size + 1 + 1, 0, none⟩) (by show _ ≠ w.heap.size + 1 + 1; omega) (.int .i64 x3)).far (p := ⟨w.heap.size + 1 + 1, 1, none⟩) (by show _ ≠ w.heap.size + 1 + 1; omega) (.int .i64 y3)).set 0 (.int .i64 x5)).set 1 (.int .i64 y5))
    have hR : Below w.heap.size w ((((((W7.setCell ⟨w.heap.size + 1, 0, none⟩ (.int .i64 x2)).setCell ⟨w.heap.size + 1, 1, none⟩ (.int .i64 y2)).setCell ⟨w.heap.size + 1 + 1, 0, none⟩ (.int .i64 x3)).setCell ⟨w.heap.size + 1 + 1, 1, none⟩ (.int .i64 y3)).setCell ⟨w.heap.size + 1 + 1 + 1, 0, none⟩ (.int .i64 x5)).setCell ⟨w.heap.size + 1 + 1 + 1, 1, none⟩ (.int .i64 y5)) := by (repeat' (first | (with_reducible exact Below.refl _ _) | (with_reducible refine below_step (by assumption) ?_ ?_) | (with_reducible refine Below.alloc ?_ ?_ _) | (with_reducible refine Below.setCell ?_ ?_ _) | (with_reducible refine below_drewN ?_ _) | (with_reducible refine Below.drew ?_) | omega | (simp; omega) | (simp; done)))
    simp only [List.setIfInBounds_toArray, List.set_cons_zero, List.set_cons_succ] at RA RB RC
    replace RA := Blk.drew RA
    replace RB := Blk.drew RB
    replace RC := Blk.drew RC
    replace hR := hR.drew
    clear kA kB kC hB7 kA0 kA1 kAf0 kAf1 kAl kB0 kB1 kBf0 kBf1 kBl kC0 kC1 kCf0 kCf1 kCl
    generalize ((((((W7.setCell ⟨w.heap.size + 1, 0, none⟩ (.int .i64 x2)).setCell ⟨w.heap.size + 1, 1, none⟩ (.int .i64 y2)).setCell ⟨w.heap.size + 1 + 1, 0, none⟩ (.int .i64 x3)).setCell ⟨w.heap.size + 1 + 1, 1, none⟩ (.int .i64 y3)).setCell ⟨w.heap.size + 1 + 1 + 1, 0, none⟩ (.int .i64 x5)).setCell ⟨w.heap.size + 1 + 1 + 1, 1, none⟩ (.int .i64 y5)).drew = W9 at RA RB RC hR ⊢
    have RA0 : (W9).cell? ⟨w.heap.size + 1, 0, none⟩ = some (.int .i64 x2) := RA.cell 0; have RA1 : (W9).cell? ⟨w.heap.size + 1, 1, none⟩ = some (.int .i64 y2) := RA.cell 1; have RAl : w.heap.size + 1 < (W9).heap.size := RA.lt
    have RB0 : (W9).cell? ⟨w.heap.size + 1 + 1, 0, none⟩ = some (.int .i64 x3) := RB.cell 0; have RB1 : (W9).cell? ⟨w.heap.size + 1 + 1, 1, none⟩ = some (.int .i64 y3) := RB.cell 1; have RBl : w.heap.size + 1 + 1 < (W9).heap.size := RB.lt
    have RC0 : (W9).cell? ⟨w.heap.size + 1 + 1 + 1, 0, none⟩ = some (.int .i64 x5) := RC.cell 0; have RC1 : (W9).cell? ⟨w.heap.size + 1 + 1 + 1, 1, none⟩ = some (.int .i64 y5) := RC.cell 1; have RCl : w.heap.size + 1 + 1 + 1 < (W9).heap.size := RC.lt
    refine bodyPost_ret (v := .tuple #[.agg #[.int .i64 x2, .int .i64 y2], .agg #[.int .i64 x3, .int .i64 y3], .agg #[.int .i64 x5, .int .i64 y5], .bool true]) (by simp [results, Try.results14, go_sem, RA0, RA1, RB0, RB1, RC0, RC1]) rfl ?_
    exact fr3P_yes rfl hR
end Go.Proofs.Ytcnfjapoopdiaaa
