/- Several texts joined: Trv Trw. -/
import Derived.Test.YtcnfjapoopdiaaaSaf
import Derived.Test.YtcnfjapoopdiaaaSag
import Derived.Test.YtcnfjapoopdiaaaMga
import Derived.Test.YtcnfjapoopdiaaaMgh
import Derived.Test.YtcnfjapoopdiaaaMgg
import Derived.Test.YtcnfjapoopdiaaaMge
import Derived.Test.YtcnfjapoopdiaaaMgb
import Derived.Deep.Cut
/- Trv -/
namespace Go.Proofs.Ytcnfjapoopdiaaa
open Go.RowKit

theorem mem_new {L : List (Nat × Array Value × TypeId)} {w : World} (h : MemL L w) (cs : Array Value) (T : TypeId) : MemL ((w.heap.size, cs, T) :: L) (w.alloc (.cells cs T)) :=
  MemL.cons (Blk.new _ _ _) (MemL.closed _ _ _ h ((Below.refl _ _).alloc (Nat.le_refl _) _))
theorem blkC2 {r : Nat} {T : TypeId} {w : World} (a b : Int) (h : Blk r #[.int .i64 a, .int .i64 b] T w) : w.cell? ⟨r, 0, none⟩ = some (.int .i64 a) ∧ w.cell? ⟨r, 1, none⟩ = some (.int .i64 b) ∧ r < w.heap.size :=
  ⟨h.cell 0, h.cell 1, h.lt⟩
theorem blkC3 {r : Nat} {T : TypeId} {w : World} (a b c : Int) (h : Blk r #[.int .i64 a, .int .i64 b, .int .i64 c] T w) : w.cell? ⟨r, 0, none⟩ = some (.int .i64 a) ∧ w.cell? ⟨r, 1, none⟩ = some (.int .i64 b) ∧ w.cell? ⟨r, 2, none⟩ = some (.int .i64 c) ∧ r < w.heap.size :=
  ⟨h.cell 0, h.cell 1, h.cell 2, h.lt⟩
theorem blkC6 {r : Nat} {T : TypeId} {w : World} (a b c d e f : Int) (h : Blk r #[.int .i64 a, .int .i64 b, .int .i64 c, .int .i64 d, .int .i64 e, .int .i64 f] T w) : w.cell? ⟨r, 0, none⟩ = some (.int .i64 a) ∧ w.cell? ⟨r, 1, none⟩ = some (.int .i64 b) ∧ w.cell? ⟨r, 2, none⟩ = some (.int .i64 c) ∧ w.cell? ⟨r, 3, none⟩ = some (.int .i64 d) ∧ w.cell? ⟨r, 4, none⟩ = some (.int .i64 e) ∧ w.cell? ⟨r, 5, none⟩ = some (.int .i64 f) ∧ r < w.heap.size :=
  ⟨h.cell 0, h.cell 1, h.cell 2, h.cell 3, h.cell 4, h.cell 5, h.lt⟩
/-- the half squares around a triangle's square -/
theorem pk_three (n p q r s t u : Int) : ∃ (a b c d e f : Int) (o : Bool),
    (∀ w, Calls Try.prog 14 #[.int .i64 n, .agg #[.int .i64 p, .int .i64 q, .int .i64 r, .int .i64 s, .int .i64 t, .int .i64 u]] w fun e' w' => e' = .returned (.tuple #[.agg #[.int .i64 a, .int .i64 b], .agg #[.int .i64 c, .int .i64 d], .agg #[.int .i64 e, .int .i64 f], .bool o]) ∧ Below w.heap.size w w') ∧
    (∀ w, Calls Try.prog 15 #[.int .i64 n, .agg #[.int .i64 p, .int .i64 q, .int .i64 r, .int .i64 s, .int .i64 t, .int .i64 u]] w fun e' w' => e' = .returned (.tuple #[.agg #[.int .i64 a, .int .i64 b], .agg #[.int .i64 c, .int .i64 d], .agg #[.int .i64 e, .int .i64 f], .bool o]) ∧ Below w.heap.size w w') ∧
    (o = true → ∃ (x1 y1 x2 y2 x3 y3 : Int) (m1 m2 m3 : Bool),
      (∀ w, Calls Try.prog 23 #[.agg #[.int .i64 a, .int .i64 b], .agg #[.int .i64 a, .int .i64 b]] w fun r w' => r = .returned (.tuple #[.agg #[.int .i64 x1, .int .i64 y1], .bool m1]) ∧ Below w.heap.size w w') ∧
      (∀ w, Calls Try.prog 23 #[.agg #[.int .i64 c, .int .i64 d], .agg #[.int .i64 c, .int .i64 d]] w fun r w' => r = .returned (.tuple #[.agg #[.int .i64 x2, .int .i64 y2], .bool m2]) ∧ Below w.heap.size w w') ∧
      (∀ w, Calls Try.prog 23 #[.agg #[.int .i64 e, .int .i64 f], .agg #[.int .i64 e, .int .i64 f]] w fun r w' => r = .returned (.tuple #[.agg #[.int .i64 x3, .int .i64 y3], .bool m3]) ∧ Below w.heap.size w w') ∧
      (m1 = true → m2 = true → m3 = true → ∃ (x4 y4 x5 y5 : Int) (m4 m5 : Bool),
        (∀ w, Calls Try.prog 24 #[.agg #[.int .i64 x2, .int .i64 y2], .agg #[.int .i64 x1, .int .i64 y1]] w fun r w' => r = .returned (.tuple #[.agg #[.int .i64 x4, .int .i64 y4], .bool m4]) ∧ Below w.heap.size w w') ∧
        (∀ w, Calls Try.prog 24 #[.agg #[.int .i64 x3, .int .i64 y3], .agg #[.int .i64 x2, .int .i64 y2]] w fun r w' => r = .returned (.tuple #[.agg #[.int .i64 x5, .int .i64 y5], .bool m5]) ∧ Below w.heap.size w w') ∧
        (m4 = true → x4 = n ∧ y4 = 1) ∧ (m5 = true → x5 = n ∧ y5 = 1))) := by
  have h1 := c_sSquares n p q r s t u
  have h2 := c_iSquares n p q r s t u
  unfold sqP fr3P at h1 h2
  cases ho : (vlB n p q r s t u && sqO p q r s t u)
  · rw [ho] at h1 h2
    exact ⟨0, 0, 0, 0, 0, 0, false, h2, h1, fun h => Bool.noConfusion h⟩
  · rw [ho] at h1 h2
    obtain ⟨⟨f1, f2, f3⟩, e1, e2⟩ := sq_vals ho
    have hn := (vl_vals (n := n) (p := p) (q := q) (r := r) (s := s) (t := t) (u := u) (by rw [Bool.and_eq_true] at ho; exact ho.1)).1
    generalize mkN (sN1 p q r s * 1) (sD1 p q r s * 2) = a at *
    generalize mkD (sN1 p q r s * 1) (sD1 p q r s * 2) = b at *
    generalize mkN (t * 1) (u * 2) = c at *
    generalize mkD (t * 1) (u * 2) = d at *
    generalize mkN (sN4 p q r s * 1) (sD4 p q r s * 2) = e at *
    generalize mkD (sN4 p q r s * 1) (sD4 p q r s * 2) = f at *
    refine ⟨a, b, c, d, e, f, true, h2, h1, fun _ => ?_⟩
    refine ⟨_, _, _, _, _, _, _, _, _, c_sProductOf a b a b f1 f1, c_sProductOf c d c d f2 f2, c_sProductOf e f e f f3 f3, fun m1 m2 m3 => ?_⟩
    simp only [rsI, m1, m2, m3, if_true]
    refine ⟨_, _, _, _, _, _, c_sDifferenceOf _ _ _ _ (mOk_fr m2) (mOk_fr m1), c_sDifferenceOf _ _ _ _ (mOk_fr m3) (mOk_fr m2), fun m4 => ?_, fun m5 => ?_⟩
    · simp only [rsI, m4, if_true]
      exact sq_step hn m1 m2 m4 e1
    · simp only [rsI, m5, if_true]
      exact sq_step hn m2 m3 m5 e2
/-- a triangle's point told: back to the triangle -/
theorem pk_ok {n p q r s t u x y z : Int} (hv : vlB n p q r s t u = true) (hP : PotV n p q r s t u x y z) : ∃ (p' q' r' s' t' u' : Int) (o : Bool),
    (∀ w : World, Calls Try.prog 5 #[.int .i64 n, .agg #[.int .i64 x, .int .i64 y, .int .i64 z]] w fun e w' => e = .returned (.tuple #[.agg #[.int .i64 p', .int .i64 q', .int .i64 r', .int .i64 s', .int .i64 t', .int .i64 u'], .bool o]) ∧ Below w.heap.size w w') ∧
    (∀ w : World, Calls Try.prog 7 #[.int .i64 n, .agg #[.int .i64 x, .int .i64 y, .int .i64 z]] w fun e w' => e = .returned (.tuple #[.agg #[.int .i64 p', .int .i64 q', .int .i64 r', .int .i64 s', .int .i64 t', .int .i64 u'], .bool o]) ∧ Below w.heap.size w w') ∧
    (o = true → p' = p ∧ q' = q ∧ r' = r ∧ s' = s ∧ t' = t ∧ u' = u) ∧
    (∀ w : World, Calls Try.prog 25 #[.agg #[.int .i64 (congA n), .int .i64 0], .agg #[.int .i64 x, .int .i64 y, .int .i64 z]] w fun e w' => e = .returned (.bool true) ∧ Below w.heap.size w w') ∧ ¬ y ≤ 0 := by
  obtain ⟨p', q', r', s', t', u', o, h1, h2, h3⟩ := tof_all2 n x y z
  refine ⟨p', q', r', s', t', u', o, h1, h2, fun h => ?_, fun w => ?_, ?_⟩
  · obtain ⟨_, _, a, b, c, d, e, f, hT, hO⟩ := h3 h
    exact tof_back hv hP hT hO
  · have hcv : curveB (congA n) 0 = true := curve_n3 (vl_vals hv).1
    have h := c_iIsPointOf (congA n) 0 x y z hcv w
    rw [hP.2.1] at h
    exact h
  · have := pot_pos hv hP
    omega
/-- a triangle's point, told on both sides, and the way back -/
theorem pk_pot (n p q r s t u : Int) : ∃ (x y z : Int) (o1 : Bool),
    (∀ w : World, Calls Try.prog 11 #[.int .i64 n, .agg #[.int .i64 p, .int .i64 q, .int .i64 r, .int .i64 s, .int .i64 t, .int .i64 u]] w fun x1 w' => x1 = .returned (.tuple #[.agg #[.int .i64 x, .int .i64 y, .int .i64 z], .bool o1]) ∧ Below w.heap.size w w') ∧
    (∀ w : World, Calls Try.prog 10 #[.int .i64 n, .agg #[.int .i64 p, .int .i64 q, .int .i64 r, .int .i64 s, .int .i64 t, .int .i64 u]] w fun x1 w' => x1 = .returned (.tuple #[.agg #[.int .i64 x, .int .i64 y, .int .i64 z], .bool o1]) ∧ Below w.heap.size w w') ∧
    (o1 = true → (itOk n p q r s t u && tIs n p q r s t u) = true ∧ itOk n p q r s t u = true) ∧
    (o1 = true → ∃ (p' q' r' s' t' u' : Int) (o : Bool),
      (∀ w : World, Calls Try.prog 5 #[.int .i64 n, .agg #[.int .i64 x, .int .i64 y, .int .i64 z]] w fun e w' => e = .returned (.tuple #[.agg #[.int .i64 p', .int .i64 q', .int .i64 r', .int .i64 s', .int .i64 t', .int .i64 u'], .bool o]) ∧ Below w.heap.size w w') ∧
      (∀ w : World, Calls Try.prog 7 #[.int .i64 n, .agg #[.int .i64 x, .int .i64 y, .int .i64 z]] w fun e w' => e = .returned (.tuple #[.agg #[.int .i64 p', .int .i64 q', .int .i64 r', .int .i64 s', .int .i64 t', .int .i64 u'], .bool o]) ∧ Below w.heap.size w w') ∧
      (o = true → p' = p ∧ q' = q ∧ r' = r ∧ s' = s ∧ t' = t ∧ u' = u) ∧
      (∀ w : World, Calls Try.prog 25 #[.agg #[.int .i64 (if areaB n then congA n else 0), .int .i64 0], .agg #[.int .i64 x, .int .i64 y, .int .i64 z]] w fun e w' => e = .returned (.bool true) ∧ Below w.heap.size w w') ∧ ¬ y ≤ 0) := by
  obtain ⟨x, y, z, o1, hS, hI, hok⟩ := pot_all n p q r s t u
  refine ⟨x, y, z, o1, hS, hI, fun h => ?_, fun h => ?_⟩
  · have hv := (hok h).1
    unfold vlB at hv
    refine ⟨hv, ?_⟩
    rw [Bool.and_eq_true] at hv
    exact hv.1
  · obtain ⟨hv, hP⟩ := hok h
    obtain ⟨p', q', r', s', t', u', o, h1, h2, h3, h4, h5⟩ := pk_ok hv hP
    refine ⟨p', q', r', s', t', u', o, h1, h2, h3, fun w => ?_, h5⟩
    rw [(vlB_of hv).1]
    exact h4 w
/-- a point's triangle: it is one, where that is told -/
theorem pk_five (k X Y E : Int) : ∃ (p q r s t u : Int) (o : Bool),
    (∀ w : World, Calls Try.prog 5 #[.int .i64 k, .agg #[.int .i64 X, .int .i64 Y, .int .i64 E]] w fun e w' => e = .returned (.tuple #[.agg #[.int .i64 p, .int .i64 q, .int .i64 r, .int .i64 s, .int .i64 t, .int .i64 u], .bool o]) ∧ Below w.heap.size w w') ∧
    (∀ w : World, Calls Try.prog 7 #[.int .i64 k, .agg #[.int .i64 X, .int .i64 Y, .int .i64 E]] w fun e w' => e = .returned (.tuple #[.agg #[.int .i64 p, .int .i64 q, .int .i64 r, .int .i64 s, .int .i64 t, .int .i64 u], .bool o]) ∧ Below w.heap.size w w') ∧
    (o = true → ∃ own told : Bool, (∀ w, Calls Try.prog 12 #[.int .i64 k, .agg #[.int .i64 p, .int .i64 q, .int .i64 r, .int .i64 s, .int .i64 t, .int .i64 u]] w fun e w' => e = .returned (.tuple #[.bool own, .bool told]) ∧ Below w.heap.size w w') ∧ (told = true → own = true)) := by
  obtain ⟨p, q, r, s, t, u, o, h1, h2, h3⟩ := tof_all2 k X Y E
  refine ⟨p, q, r, s, t, u, o, h1, h2, fun h => ⟨_, _, fun w => c_iIsTriangle k p q r s t u w, fun hk => ?_⟩⟩
  obtain ⟨hn, hT, _⟩ := h3 h
  rw [hk, hT.own hn hk]; rfl
/-- a scaled triangle: it is one, and its number may be congruent -/
theorem pk_seven (m x y : Int) : ∃ (p q r s t u : Int) (o : Bool),
    (∀ w : World, Calls Try.prog 19 #[.int .i64 m, .int .i64 x, .int .i64 y] w fun e w' => e = .returned (.tuple #[.agg #[.int .i64 p, .int .i64 q, .int .i64 r, .int .i64 s, .int .i64 t, .int .i64 u], .bool o]) ∧ Below w.heap.size w w') ∧
    (∀ w : World, Calls Try.prog 18 #[.int .i64 m, .int .i64 x, .int .i64 y] w fun e w' => e = .returned (.tuple #[.agg #[.int .i64 p, .int .i64 q, .int .i64 r, .int .i64 s, .int .i64 t, .int .i64 u], .bool o]) ∧ Below w.heap.size w w') ∧
    (o = true → (∃ own told : Bool, (∀ w, Calls Try.prog 12 #[.int .i64 m, .agg #[.int .i64 p, .int .i64 q, .int .i64 r, .int .i64 s, .int .i64 t, .int .i64 u]] w fun e w' => e = .returned (.tuple #[.bool own, .bool told]) ∧ Below w.heap.size w w') ∧ (told = true → own = true)) ∧
      (∀ w, Calls Try.prog 26 #[.int .i64 m] w fun e w' => e = .returned (.tuple #[.bool true, .bool true]) ∧ Below w.heap.size w w')) := by
  have h1 := fun w => c_sScaled m x y w
  have h2 := fun w => c_iScaled m x y w
  unfold TriPost at h1 h2
  obtain ⟨p, q, r, s, t, u, hf⟩ := stV_form m x y
  refine ⟨p, q, r, s, t, u, _, fun w => by have := h1 w; rw [hf] at this; exact this, fun w => by have := h2 w; rw [hf] at this; exact this, fun h => ?_⟩
  obtain ⟨hn, hm, p', q', r', s', t', u', hV, hT⟩ := sc_tri h
  have he := hf.symm.trans hV
  simp only [Value.agg.injEq, Array.mk.injEq, List.cons.injEq, Value.int.injEq, true_and, and_true] at he
  obtain ⟨rfl, rfl, rfl, rfl, rfl, rfl⟩ := he
  refine ⟨⟨_, _, fun w => c_iIsTriangle m p q r s t u w, fun hk => ?_⟩, fun w => ?_⟩
  · rw [hk, hT.own hn hk]; rfl
  · have hs : areaB m = true := by
      rw [Bool.and_eq_true] at h
      have := h.1
      unfold stB at this
      simp only [Bool.and_eq_true] at this
      exact this.1.1
    have := c_implMay m w
    rw [hs, hm] at this
    exact this
end Go.Proofs.Ytcnfjapoopdiaaa

/- Trw -/
namespace Go.Proofs.Ytcnfjapoopdiaaa
open Go.RowKit

set_option maxHeartbeats 16000000 in
set_option maxRecDepth 1000000 in
theorem walk_FnTriangles (v0 : Value) (xs : List Int) (v1 : Value) (ys : List Int) (w : World) (r0 : RdB w w.heap.size v0 xs) (r1 : RdB w w.heap.size v1 ys) :
    Calls Try.prog 4 #[v0, v1] w fun e w' => e = .returned (.bool true) ∧ Below w.heap.size w w' := by
  have hml : maxLen = 9223372036854775807 := by decide +kernel
  by_cases hbig : 1048576 < wrap64 ((xs.length : Int) + ys.length)
  · obtain ⟨a0, cap0, rfl, hm0, _⟩ := id r0
    obtain ⟨a1, cap1, rfl, hm1, _⟩ := id r1
    clear r0 r1
    go_enter Try.func4, Try.ntmps4
    go_wp2
    go_ret
    exact ⟨rfl, Below.refl _ _⟩
  obtain ⟨a0, cap0, rfl, hm0, _⟩ := id r0
  obtain ⟨a1, cap1, rfl, hm1, _⟩ := id r1
  have HD := Lib.hid (d_drawPointOf _ xs w r0)
  have R1 := Lib.hid r1
  clear r0 r1
  go_enter Try.func4, Try.ntmps4
  go_wp2_with fail
  refine HD.out.mono ?_
  rintro e w1 ⟨n, p, q, r, s, t, u, rfl, _, _, bb1⟩
  clear HD
  obtain ⟨x, y, z, o1, hS, hI, hok, hba⟩ := pk_pot n p q r s t u
  have PS := Lib.hid hS
  have PI := Lib.hid hI
  have OK := Lib.hid hok
  have BA := Lib.hid hba
  clear hS hI hok hba
  have TI := Lib.hid (fun W => c_iIsTriangle n p q r s t u W)
  have TS := Lib.hid (fun W => c_sIsTriangle n p q r s t u W)
  have AN := Lib.hid (fun W => c_iIsAreaNumber n W)
  have CI := Lib.hid (fun W => c_iCongruentCurve n W)
  have CS := Lib.hid (fun W => c_sCongruentCurve n W)
  generalize (if areaB n then congA n else 0) = ca at CI CS BA
  obtain ⟨is, his⟩ : ∃ b, (itOk n p q r s t u && tIs n p q r s t u) = b := ⟨_, rfl⟩
  rw [his] at TI TS OK
  clear his
  obtain ⟨one, hone⟩ : ∃ b, itOk n p q r s t u = b := ⟨_, rfl⟩
  rw [hone] at TI TS OK
  obtain ⟨nine, hnine⟩ : ∃ b, areaB n = b := ⟨_, rfl⟩
  rw [hnine] at AN CI CS
  clear hone hnine
  obtain ⟨a, b, c, d, e1, f, three, hI, hS, h3⟩ := pk_three n p q r s t u
  have QI := Lib.hid hI
  have QS := Lib.hid hS
  have Q3 := Lib.hid h3
  clear hI hS h3
  have hM : MemL [] w1 := fun _ hx => (List.not_mem_nil hx).elim
  have bb2 := bb1.alloc bb1.size (.cells #[.int .i64 p, .int .i64 q, .int .i64 r, .int .i64 s, .int .i64 t, .int .i64 u] 27)
  replace hM := mem_new hM #[.int .i64 p, .int .i64 q, .int .i64 r, .int .i64 s, .int .i64 t, .int .i64 u] 27
  clear bb1
  go_upto_region 4 with (fail)
  generalize w1.alloc _ = w2 at *
  generalize w1.heap.size = rT at *
  obtain ⟨k_rTa, k_rTb, k_rTc, k_rTd, k_rTe, k_rTf, k_rTl⟩ := blkC6 (r := rT) (T := 27) (w := w2) p q r s t u (hM (rT, #[.int .i64 p, .int .i64 q, .int .i64 r, .int .i64 s, .int .i64 t, .int .i64 u], 27) (by repeat (first | exact List.mem_cons_self .. | refine List.mem_cons_of_mem _ ?_)))
  go_wp2_with fail
  refine (PI.out _).mono ?_
  rintro e w3 ⟨rfl, hb3⟩
  have bb3 := below_step hb3 bb2.size bb2
  replace hM := MemL.closed _ _ _ hM hb3
  clear hb3 bb2
  clear k_rTa k_rTb k_rTc k_rTd k_rTe k_rTf k_rTl
  have bb4 := bb3.alloc bb3.size (.cells #[.int .i64 x, .int .i64 y, .int .i64 z] 30)
  replace hM := mem_new hM #[.int .i64 x, .int .i64 y, .int .i64 z] 30
  clear bb3
  go_upto_region 5 with (fail)
  generalize w3.alloc _ = w4 at *
  generalize w3.heap.size = rP at *
  obtain ⟨k_rTa, k_rTb, k_rTc, k_rTd, k_rTe, k_rTf, k_rTl⟩ := blkC6 (r := rT) (T := 27) (w := w4) p q r s t u (hM (rT, #[.int .i64 p, .int .i64 q, .int .i64 r, .int .i64 s, .int .i64 t, .int .i64 u], 27) (by repeat (first | exact List.mem_cons_self .. | refine List.mem_cons_of_mem _ ?_)))
  go_wp2_with fail
  refine (PS.out _).mono ?_
  rintro e w5 ⟨rfl, hb5⟩
  have bb5 := below_step hb5 bb4.size bb4
  replace hM := MemL.closed _ _ _ hM hb5
  clear hb5 bb4
  clear k_rTa k_rTb k_rTc k_rTd k_rTe k_rTf k_rTl
  have bb6 := bb5.alloc bb5.size (.cells #[.int .i64 x, .int .i64 y, .int .i64 z] 30)
  replace hM := mem_new hM #[.int .i64 x, .int .i64 y, .int .i64 z] 30
  clear bb5
  go_upto_region 6 with (fail)
  generalize w5.alloc _ = w6 at *
  generalize w5.heap.size = rQ at *
  obtain ⟨k_rTa, k_rTb, k_rTc, k_rTd, k_rTe, k_rTf, k_rTl⟩ := blkC6 (r := rT) (T := 27) (w := w6) p q r s t u (hM (rT, #[.int .i64 p, .int .i64 q, .int .i64 r, .int .i64 s, .int .i64 t, .int .i64 u], 27) (by repeat (first | exact List.mem_cons_self .. | refine List.mem_cons_of_mem _ ?_)))
  go_wp2_with fail
  refine (TI.out _).mono ?_
  rintro e w7 ⟨rfl, hb7⟩
  have bb7 := below_step hb7 bb6.size bb6
  replace hM := MemL.closed _ _ _ hM hb7
  clear hb7 bb6
  clear k_rTa k_rTb k_rTc k_rTd k_rTe k_rTf k_rTl
  obtain ⟨k_rTa, k_rTb, k_rTc, k_rTd, k_rTe, k_rTf, k_rTl⟩ := blkC6 (r := rT) (T := 27) (w := w7) p q r s t u (hM (rT, #[.int .i64 p, .int .i64 q, .int .i64 r, .int .i64 s, .int .i64 t, .int .i64 u], 27) (by repeat (first | exact List.mem_cons_self .. | refine List.mem_cons_of_mem _ ?_)))
  go_wp2_with fail
  refine (TS.out _).mono ?_
  rintro e w8 ⟨rfl, hb8⟩
  have bb8 := below_step hb8 bb7.size bb7
  replace hM := MemL.closed _ _ _ hM hb8
  clear hb8 bb7
  clear k_rTa k_rTb k_rTc k_rTd k_rTe k_rTf k_rTl
  obtain ⟨k_rTa, k_rTb, k_rTc, k_rTd, k_rTe, k_rTf, k_rTl⟩ := blkC6 (r := rT) (T := 27) (w := w8) p q r s t u (hM (rT, #[.int .i64 p, .int .i64 q, .int .i64 r, .int .i64 s, .int .i64 t, .int .i64 u], 27) (by repeat (first | exact List.mem_cons_self .. | refine List.mem_cons_of_mem _ ?_)))
  go_wp2_with fail
  refine (QI.out _).mono ?_
  rintro e w9 ⟨rfl, hb9⟩
  have bb9 := below_step hb9 bb8.size bb8
  replace hM := MemL.closed _ _ _ hM hb9
  clear hb9 bb8
  clear k_rTa k_rTb k_rTc k_rTd k_rTe k_rTf k_rTl
  obtain ⟨kX, kY, kZ, hx⟩ := box3 w9 a b c d e1 f
  have bb10 := below_step hx bb9.size bb9
  replace hM := MemL.cons kX (MemL.cons kY (MemL.cons kZ (MemL.closed _ _ _ hM hx)))
  clear bb9 kX kY kZ hx
  go_upto_region 9 with (fail)
  generalize ((w9.alloc _).alloc _).alloc _ = w10 at *
  generalize w9.heap.size = rA at *
  obtain ⟨k_rTa, k_rTb, k_rTc, k_rTd, k_rTe, k_rTf, k_rTl⟩ := blkC6 (r := rT) (T := 27) (w := w10) p q r s t u (hM (rT, #[.int .i64 p, .int .i64 q, .int .i64 r, .int .i64 s, .int .i64 t, .int .i64 u], 27) (by repeat (first | exact List.mem_cons_self .. | refine List.mem_cons_of_mem _ ?_)))
  go_wp2_with fail
  refine (QS.out _).mono ?_
  rintro e w11 ⟨rfl, hb11⟩
  have bb11 := below_step hb11 bb10.size bb10
  replace hM := MemL.closed _ _ _ hM hb11
  clear hb11 bb10
  clear k_rTa k_rTb k_rTc k_rTd k_rTe k_rTf k_rTl
  obtain ⟨kX, kY, kZ, hx⟩ := box3 w11 a b c d e1 f
  have bb12 := below_step hx bb11.size bb11
  replace hM := MemL.cons kX (MemL.cons kY (MemL.cons kZ (MemL.closed _ _ _ hM hx)))
  clear bb11 kX kY kZ hx
  go_upto_region 10 with (fail)
  generalize ((w11.alloc _).alloc _).alloc _ = w12 at *
  generalize w11.heap.size = rB at *
  clear PI PS TI TS QI QS
  go_wp2_with fail
  refine (d_drawTriangleOf _ ys _ (R1.out.later bb12)).mono ?_
  rintro e w13 ⟨k, X, Y, Z, rfl, _, _, hb13⟩
  have bb13 := below_step hb13 bb12.size bb12
  replace hM := MemL.closed _ _ _ hM hb13
  clear hb13 bb12
  obtain ⟨g1, g2, g3, g4, g5, g6, five, hS, hI, h5⟩ := pk_five k X Y Z
  have FSz := Lib.hid hS
  have FIz := Lib.hid hI
  have F5 := Lib.hid h5
  clear hS hI h5
  have bb14 := bb13.alloc bb13.size (.cells #[.int .i64 X, .int .i64 Y, .int .i64 Z] 30)
  replace hM := mem_new hM #[.int .i64 X, .int .i64 Y, .int .i64 Z] 30
  clear bb13
  go_upto_region 11 with (fail)
  generalize w13.alloc _ = w14 at *
  generalize w13.heap.size = rK at *
  obtain ⟨k_rKa, k_rKb, k_rKc, k_rKl⟩ := blkC3 (r := rK) (T := 30) (w := w14) X Y Z (hM (rK, #[.int .i64 X, .int .i64 Y, .int .i64 Z], 30) (by repeat (first | exact List.mem_cons_self .. | refine List.mem_cons_of_mem _ ?_)))
  go_wp2_with fail
  refine (FIz.out _).mono ?_
  rintro e w15 ⟨rfl, hb15⟩
  have bb15 := below_step hb15 bb14.size bb14
  replace hM := MemL.closed _ _ _ hM hb15
  clear hb15 bb14
  clear k_rKa k_rKb k_rKc k_rKl
  have bb16 := bb15.alloc bb15.size (.cells #[.int .i64 g1, .int .i64 g2, .int .i64 g3, .int .i64 g4, .int .i64 g5, .int .i64 g6] 27)
  replace hM := mem_new hM #[.int .i64 g1, .int .i64 g2, .int .i64 g3, .int .i64 g4, .int .i64 g5, .int .i64 g6] 27
  clear bb15
  go_upto_region 12 with (fail)
  generalize w15.alloc _ = w16 at *
  generalize w15.heap.size = rU at *
  obtain ⟨k_rKa, k_rKb, k_rKc, k_rKl⟩ := blkC3 (r := rK) (T := 30) (w := w16) X Y Z (hM (rK, #[.int .i64 X, .int .i64 Y, .int .i64 Z], 30) (by repeat (first | exact List.mem_cons_self .. | refine List.mem_cons_of_mem _ ?_)))
  go_wp2_with fail
  refine (FSz.out _).mono ?_
  rintro e w17 ⟨rfl, hb17⟩
  have bb17 := below_step hb17 bb16.size bb16
  replace hM := MemL.closed _ _ _ hM hb17
  clear hb17 bb16
  clear k_rKa k_rKb k_rKc k_rKl
  have bb18 := bb17.alloc bb17.size (.cells #[.int .i64 g1, .int .i64 g2, .int .i64 g3, .int .i64 g4, .int .i64 g5, .int .i64 g6] 27)
  replace hM := mem_new hM #[.int .i64 g1, .int .i64 g2, .int .i64 g3, .int .i64 g4, .int .i64 g5, .int .i64 g6] 27
  clear bb17
  go_upto_region 13 with (fail)
  generalize w17.alloc _ = w18 at *
  generalize w17.heap.size = rV at *
  go_wp2_with fail
  refine (d_drawScaled _ ys _ (R1.out.later bb18)).mono ?_
  rintro e w19 ⟨m, u1, v1, rfl, _, hb19⟩
  have bb19 := below_step hb19 bb18.size bb18
  replace hM := MemL.closed _ _ _ hM hb19
  clear hb19 bb18
  obtain ⟨j1, j2, j3, j4, j5, j6, seven, hS, hI, h7⟩ := pk_seven m u1 v1
  have SS := Lib.hid hS
  have SI := Lib.hid hI
  have S7 := Lib.hid h7
  clear hS hI h7 R1 FSz FIz
  go_wp2_with fail
  refine (SI.out _).mono ?_
  rintro e w20 ⟨rfl, hb20⟩
  have bb20 := below_step hb20 bb19.size bb19
  replace hM := MemL.closed _ _ _ hM hb20
  clear hb20 bb19
  have bb21 := bb20.alloc bb20.size (.cells #[.int .i64 j1, .int .i64 j2, .int .i64 j3, .int .i64 j4, .int .i64 j5, .int .i64 j6] 27)
  replace hM := mem_new hM #[.int .i64 j1, .int .i64 j2, .int .i64 j3, .int .i64 j4, .int .i64 j5, .int .i64 j6] 27
  clear bb20
  go_upto_region 15 with (fail)
  generalize w20.alloc _ = w21 at *
  generalize w20.heap.size = rS at *
  go_wp2_with fail
  refine (SS.out _).mono ?_
  rintro e w22 ⟨rfl, hb22⟩
  have bb22 := below_step hb22 bb21.size bb21
  replace hM := MemL.closed _ _ _ hM hb22
  clear hb22 bb21
  have bb23 := bb22.alloc bb22.size (.cells #[.int .i64 j1, .int .i64 j2, .int .i64 j3, .int .i64 j4, .int .i64 j5, .int .i64 j6] 27)
  replace hM := mem_new hM #[.int .i64 j1, .int .i64 j2, .int .i64 j3, .int .i64 j4, .int .i64 j5, .int .i64 j6] 27
  clear bb22
  go_upto_region 16 with (fail)
  generalize w22.alloc _ = w23 at *
  generalize w22.heap.size = rR at *
  go_wp2_with fail
  refine (CI.out _).mono ?_
  rintro e w24 ⟨rfl, hb24⟩
  have bb24 := below_step hb24 bb23.size bb23
  replace hM := MemL.closed _ _ _ hM hb24
  clear hb24 bb23
  have bb25 := bb24.alloc bb24.size (.cells #[.int .i64 ca, .int .i64 (0)] 49)
  replace hM := mem_new hM #[.int .i64 ca, .int .i64 (0)] 49
  clear bb24
  go_upto_region 17 with (fail)
  generalize w24.alloc _ = w25 at *
  generalize w24.heap.size = rC at *
  go_wp2_with fail
  refine (CS.out _).mono ?_
  rintro e w26 ⟨rfl, hb26⟩
  have bb26 := below_step hb26 bb25.size bb25
  replace hM := MemL.closed _ _ _ hM hb26
  clear hb26 bb25
  have bb27 := bb26.alloc bb26.size (.cells #[.int .i64 ca, .int .i64 (0)] 49)
  replace hM := mem_new hM #[.int .i64 ca, .int .i64 (0)] 49
  clear bb26
  go_upto_region 18 with (fail)
  generalize w26.alloc _ = w27 at *
  generalize w26.heap.size = rD at *
  clear SI SS CI CS
  go_cut [241] from 371 (fun s wc => s = .bool false ∧ Below w27.heap.size w27 wc)
  case first =>
    clear Q3 F5 S7 BA
    obtain ⟨k_rPa, k_rPb, k_rPc, k_rPl⟩ := blkC3 (r := rP) (T := 30) (w := w27) x y z (hM (rP, #[.int .i64 x, .int .i64 y, .int .i64 z], 30) (by repeat (first | exact List.mem_cons_self .. | refine List.mem_cons_of_mem _ ?_)))
    obtain ⟨k_rQa, k_rQb, k_rQc, k_rQl⟩ := blkC3 (r := rQ) (T := 30) (w := w27) x y z (hM (rQ, #[.int .i64 x, .int .i64 y, .int .i64 z], 30) (by repeat (first | exact List.mem_cons_self .. | refine List.mem_cons_of_mem _ ?_)))
    obtain ⟨k_rAa, k_rAb, k_rAl⟩ := blkC2 (r := rA) (T := 25) (w := w27) a b (hM (rA, #[.int .i64 a, .int .i64 b], 25) (by repeat (first | exact List.mem_cons_self .. | refine List.mem_cons_of_mem _ ?_)))
    obtain ⟨k_rA_1a, k_rA_1b, k_rA_1l⟩ := blkC2 (r := rA + 1) (T := 25) (w := w27) c d (hM (rA + 1, #[.int .i64 c, .int .i64 d], 25) (by repeat (first | exact List.mem_cons_self .. | refine List.mem_cons_of_mem _ ?_)))
    obtain ⟨k_rA_1_1a, k_rA_1_1b, k_rA_1_1l⟩ := blkC2 (r := rA + 1 + 1) (T := 25) (w := w27) e1 f (hM (rA + 1 + 1, #[.int .i64 e1, .int .i64 f], 25) (by repeat (first | exact List.mem_cons_self .. | refine List.mem_cons_of_mem _ ?_)))
    obtain ⟨k_rBa, k_rBb, k_rBl⟩ := blkC2 (r := rB) (T := 25) (w := w27) a b (hM (rB, #[.int .i64 a, .int .i64 b], 25) (by repeat (first | exact List.mem_cons_self .. | refine List.mem_cons_of_mem _ ?_)))
    obtain ⟨k_rB_1a, k_rB_1b, k_rB_1l⟩ := blkC2 (r := rB + 1) (T := 25) (w := w27) c d (hM (rB + 1, #[.int .i64 c, .int .i64 d], 25) (by repeat (first | exact List.mem_cons_self .. | refine List.mem_cons_of_mem _ ?_)))
    obtain ⟨k_rB_1_1a, k_rB_1_1b, k_rB_1_1l⟩ := blkC2 (r := rB + 1 + 1) (T := 25) (w := w27) e1 f (hM (rB + 1 + 1, #[.int .i64 e1, .int .i64 f], 25) (by repeat (first | exact List.mem_cons_self .. | refine List.mem_cons_of_mem _ ?_)))
    obtain ⟨k_rUa, k_rUb, k_rUc, k_rUd, k_rUe, k_rUf, k_rUl⟩ := blkC6 (r := rU) (T := 27) (w := w27) g1 g2 g3 g4 g5 g6 (hM (rU, #[.int .i64 g1, .int .i64 g2, .int .i64 g3, .int .i64 g4, .int .i64 g5, .int .i64 g6], 27) (by repeat (first | exact List.mem_cons_self .. | refine List.mem_cons_of_mem _ ?_)))
    obtain ⟨k_rVa, k_rVb, k_rVc, k_rVd, k_rVe, k_rVf, k_rVl⟩ := blkC6 (r := rV) (T := 27) (w := w27) g1 g2 g3 g4 g5 g6 (hM (rV, #[.int .i64 g1, .int .i64 g2, .int .i64 g3, .int .i64 g4, .int .i64 g5, .int .i64 g6], 27) (by repeat (first | exact List.mem_cons_self .. | refine List.mem_cons_of_mem _ ?_)))
    obtain ⟨k_rSa, k_rSb, k_rSc, k_rSd, k_rSe, k_rSf, k_rSl⟩ := blkC6 (r := rS) (T := 27) (w := w27) j1 j2 j3 j4 j5 j6 (hM (rS, #[.int .i64 j1, .int .i64 j2, .int .i64 j3, .int .i64 j4, .int .i64 j5, .int .i64 j6], 27) (by repeat (first | exact List.mem_cons_self .. | refine List.mem_cons_of_mem _ ?_)))
    obtain ⟨k_rRa, k_rRb, k_rRc, k_rRd, k_rRe, k_rRf, k_rRl⟩ := blkC6 (r := rR) (T := 27) (w := w27) j1 j2 j3 j4 j5 j6 (hM (rR, #[.int .i64 j1, .int .i64 j2, .int .i64 j3, .int .i64 j4, .int .i64 j5, .int .i64 j6], 27) (by repeat (first | exact List.mem_cons_self .. | refine List.mem_cons_of_mem _ ?_)))
    obtain ⟨k_rCa, k_rCb, k_rCl⟩ := blkC2 (r := rC) (T := 49) (w := w27) ca 0 (hM (rC, #[.int .i64 ca, .int .i64 (0)], 49) (by repeat (first | exact List.mem_cons_self .. | refine List.mem_cons_of_mem _ ?_)))
    obtain ⟨k_rDa, k_rDb, k_rDl⟩ := blkC2 (r := rD) (T := 49) (w := w27) ca 0 (hM (rD, #[.int .i64 ca, .int .i64 (0)], 49) (by repeat (first | exact List.mem_cons_self .. | refine List.mem_cons_of_mem _ ?_)))
    clear hM bb27
    go_wp2_with fail
    refine (AN.out _).mono ?_
    rintro e wn ⟨rfl, hbn⟩
    cases o1
    · go_wp2
      all_goals (go_meet; case rel => exact ⟨rfl, hbn⟩)
    · obtain ⟨hv1, hv2⟩ := OK.out rfl
      subst hv1 hv2
      go_wp2
      all_goals (go_meet; case rel => exact ⟨rfl, hbn⟩)
  obtain ⟨rfl, hbc⟩ := hcut
  have bbc := below_step hbc bb27.size bb27
  replace hM := MemL.closed _ _ _ hM hbc
  clear hbc bb27 AN OK
  go_upto_if 242 with (fail)
  go_cut [] from 371 (fun wd => Below wc.heap.size wc wd)
  case first =>
    clear BA F5 S7 bbc
    cases three
    · clear Q3
      go_wp2
      go_meet
      case rel => exact Below.refl _ _
    · obtain ⟨x1, y1, x2, y2, x3, y3, m1, m2, m3, hA, hB, hC, hD⟩ := Q3.out rfl
      have GA := Lib.hid hA
      have GB := Lib.hid hB
      have GC := Lib.hid hC
      have GD := Lib.hid hD
      clear hA hB hC hD Q3
      have bbc : Below wc.heap.size wc wc := Below.refl _ _
      obtain ⟨k_rBa, k_rBb, k_rBl⟩ := blkC2 (r := rB) (T := 25) (w := wc) a b (hM (rB, #[.int .i64 a, .int .i64 b], 25) (by repeat (first | exact List.mem_cons_self .. | refine List.mem_cons_of_mem _ ?_)))
      go_wp2_with fail
      refine (GA.out _).mono ?_
      rintro e w28 ⟨rfl, hb28⟩
      have bb28 := below_step hb28 bbc.size bbc
      replace hM := MemL.closed _ _ _ hM hb28
      clear hb28 bbc
      clear k_rBa k_rBb k_rBl
      have bb29 := bb28.alloc bb28.size (.cells #[.int .i64 x1, .int .i64 y1] 25)
      replace hM := mem_new hM #[.int .i64 x1, .int .i64 y1] 25
      clear bb28
      go_upto_region 22 with (fail)
      generalize w28.alloc _ = w29 at *
      generalize w28.heap.size = r1 at *
      obtain ⟨k_rB_1a, k_rB_1b, k_rB_1l⟩ := blkC2 (r := rB + 1) (T := 25) (w := w29) c d (hM (rB + 1, #[.int .i64 c, .int .i64 d], 25) (by repeat (first | exact List.mem_cons_self .. | refine List.mem_cons_of_mem _ ?_)))
      go_wp2_with fail
      refine (GB.out _).mono ?_
      rintro e w30 ⟨rfl, hb30⟩
      have bb30 := below_step hb30 bb29.size bb29
      replace hM := MemL.closed _ _ _ hM hb30
      clear hb30 bb29
      clear k_rB_1a k_rB_1b k_rB_1l
      have bb31 := bb30.alloc bb30.size (.cells #[.int .i64 x2, .int .i64 y2] 25)
      replace hM := mem_new hM #[.int .i64 x2, .int .i64 y2] 25
      clear bb30
      go_upto_region 23 with (fail)
      generalize w30.alloc _ = w31 at *
      generalize w30.heap.size = r2 at *
      obtain ⟨k_rB_1_1a, k_rB_1_1b, k_rB_1_1l⟩ := blkC2 (r := rB + 1 + 1) (T := 25) (w := w31) e1 f (hM (rB + 1 + 1, #[.int .i64 e1, .int .i64 f], 25) (by repeat (first | exact List.mem_cons_self .. | refine List.mem_cons_of_mem _ ?_)))
      go_wp2_with fail
      refine (GC.out _).mono ?_
      rintro e w32 ⟨rfl, hb32⟩
      have bb32 := below_step hb32 bb31.size bb31
      replace hM := MemL.closed _ _ _ hM hb32
      clear hb32 bb31
      clear k_rB_1_1a k_rB_1_1b k_rB_1_1l
      have bb33 := bb32.alloc bb32.size (.cells #[.int .i64 x3, .int .i64 y3] 25)
      replace hM := mem_new hM #[.int .i64 x3, .int .i64 y3] 25
      clear bb32
      go_upto_region 24 with (fail)
      generalize w32.alloc _ = w33 at *
      generalize w32.heap.size = r3 at *
      clear GA GB GC
      cases m1
      · clear GD hM
        go_wp2
        go_meet
        case rel => exact bb33
      skip
      cases m2
      · clear GD hM
        go_wp2
        go_meet
        case rel => exact bb33
      skip
      cases m3
      · clear GD hM
        go_wp2
        go_meet
        case rel => exact bb33
      skip
      obtain ⟨x4, y4, x5, y5, m4, m5, hA, hB, h4, h5⟩ := GD.out rfl rfl rfl
      have GA := Lib.hid hA
      have GB := Lib.hid hB
      clear hA hB GD
      obtain ⟨k_r2a, k_r2b, k_r2l⟩ := blkC2 (r := r2) (T := 25) (w := w33) x2 y2 (hM (r2, #[.int .i64 x2, .int .i64 y2], 25) (by repeat (first | exact List.mem_cons_self .. | refine List.mem_cons_of_mem _ ?_)))
      obtain ⟨k_r1a, k_r1b, k_r1l⟩ := blkC2 (r := r1) (T := 25) (w := w33) x1 y1 (hM (r1, #[.int .i64 x1, .int .i64 y1], 25) (by repeat (first | exact List.mem_cons_self .. | refine List.mem_cons_of_mem _ ?_)))
      go_wp2_with fail
      refine (GA.out _).mono ?_
      rintro e w34 ⟨rfl, hb34⟩
      have bb34 := below_step hb34 bb33.size bb33
      replace hM := MemL.closed _ _ _ hM hb34
      clear hb34 bb33
      clear k_r2a k_r2b k_r2l
      clear k_r1a k_r1b k_r1l
      have bb35 := bb34.alloc bb34.size (.cells #[.int .i64 x4, .int .i64 y4] 25)
      replace hM := mem_new hM #[.int .i64 x4, .int .i64 y4] 25
      clear bb34
      go_upto_region 26 with (fail)
      generalize w34.alloc _ = w35 at *
      generalize w34.heap.size = r4 at *
      obtain ⟨k_r3a, k_r3b, k_r3l⟩ := blkC2 (r := r3) (T := 25) (w := w35) x3 y3 (hM (r3, #[.int .i64 x3, .int .i64 y3], 25) (by repeat (first | exact List.mem_cons_self .. | refine List.mem_cons_of_mem _ ?_)))
      obtain ⟨k_r2a, k_r2b, k_r2l⟩ := blkC2 (r := r2) (T := 25) (w := w35) x2 y2 (hM (r2, #[.int .i64 x2, .int .i64 y2], 25) (by repeat (first | exact List.mem_cons_self .. | refine List.mem_cons_of_mem _ ?_)))
      go_wp2_with fail
      refine (GB.out _).mono ?_
      rintro e w36 ⟨rfl, hb36⟩
      have bb36 := below_step hb36 bb35.size bb35
      replace hM := MemL.closed _ _ _ hM hb36
      clear hb36 bb35
      clear k_r3a k_r3b k_r3l
      clear k_r2a k_r2b k_r2l
      have bb37 := bb36.alloc bb36.size (.cells #[.int .i64 x5, .int .i64 y5] 25)
      replace hM := mem_new hM #[.int .i64 x5, .int .i64 y5] 25
      clear bb36
      go_upto_region 27 with (fail)
      generalize w36.alloc _ = w37 at *
      generalize w36.heap.size = r5 at *
      obtain ⟨k_r4a, k_r4b, k_r4l⟩ := blkC2 (r := r4) (T := 25) (w := w37) x4 y4 (hM (r4, #[.int .i64 x4, .int .i64 y4], 25) (by repeat (first | exact List.mem_cons_self .. | refine List.mem_cons_of_mem _ ?_)))
      obtain ⟨k_r5a, k_r5b, k_r5l⟩ := blkC2 (r := r5) (T := 25) (w := w37) x5 y5 (hM (r5, #[.int .i64 x5, .int .i64 y5], 25) (by repeat (first | exact List.mem_cons_self .. | refine List.mem_cons_of_mem _ ?_)))
      clear GA GB hM
      cases m4
      · clear h4
        cases m5
        · clear h5
          go_wp2
          go_meet
          case rel => exact bb37
        · obtain ⟨h51, h52⟩ := h5 rfl
          subst h51 h52
          go_wp2
          go_meet
          case rel => exact bb37
      · obtain ⟨rfl, rfl⟩ := h4 rfl
        cases m5
        · clear h5
          go_wp2
          go_meet
          case rel => exact bb37
        · obtain ⟨h51, h52⟩ := h5 rfl
          subst h51 h52
          go_wp2
          go_meet
          case rel => exact bb37
  rename World => wd
  have bbd := below_step hcut bbc.size bbc
  replace hM := MemL.closed _ _ _ hM hcut
  clear hcut bbc
  go_upto_if 296 with (fail)
  go_cut [] from 371 (fun we => Below wd.heap.size wd we)
  case first =>
    clear F5 S7 bbd Q3
    cases o1
    · clear BA
      go_wp2
      go_meet
      case rel => exact Below.refl _ _
    · obtain ⟨p2, q2, r2, s2, t2, u2, o6, hS, hI, hB, hI2, hy⟩ := BA.out rfl
      have GS := Lib.hid hS
      have GI := Lib.hid hI
      have GP := Lib.hid hI2
      have GB := Lib.hid hB
      clear hS hI hI2 hB BA
      have bbd : Below wd.heap.size wd wd := Below.refl _ _
      obtain ⟨k_rPa, k_rPb, k_rPc, k_rPl⟩ := blkC3 (r := rP) (T := 30) (w := wd) x y z (hM (rP, #[.int .i64 x, .int .i64 y, .int .i64 z], 30) (by repeat (first | exact List.mem_cons_self .. | refine List.mem_cons_of_mem _ ?_)))
      go_wp2_with fail
      refine (GI.out _).mono ?_
      rintro e w38 ⟨rfl, hb38⟩
      have bb38 := below_step hb38 bbd.size bbd
      replace hM := MemL.closed _ _ _ hM hb38
      clear hb38 bbd
      clear k_rPa k_rPb k_rPc k_rPl
      have bb39 := bb38.alloc bb38.size (.cells #[.int .i64 p2, .int .i64 q2, .int .i64 r2, .int .i64 s2, .int .i64 t2, .int .i64 u2] 27)
      replace hM := mem_new hM #[.int .i64 p2, .int .i64 q2, .int .i64 r2, .int .i64 s2, .int .i64 t2, .int .i64 u2] 27
      clear bb38
      go_upto_region 31 with (fail)
      generalize w38.alloc _ = w39 at *
      generalize w38.heap.size = r6 at *
      obtain ⟨k_rQa, k_rQb, k_rQc, k_rQl⟩ := blkC3 (r := rQ) (T := 30) (w := w39) x y z (hM (rQ, #[.int .i64 x, .int .i64 y, .int .i64 z], 30) (by repeat (first | exact List.mem_cons_self .. | refine List.mem_cons_of_mem _ ?_)))
      go_wp2_with fail
      refine (GS.out _).mono ?_
      rintro e w40 ⟨rfl, hb40⟩
      have bb40 := below_step hb40 bb39.size bb39
      replace hM := MemL.closed _ _ _ hM hb40
      clear hb40 bb39
      clear k_rQa k_rQb k_rQc k_rQl
      have bb41 := bb40.alloc bb40.size (.cells #[.int .i64 p2, .int .i64 q2, .int .i64 r2, .int .i64 s2, .int .i64 t2, .int .i64 u2] 27)
      replace hM := mem_new hM #[.int .i64 p2, .int .i64 q2, .int .i64 r2, .int .i64 s2, .int .i64 t2, .int .i64 u2] 27
      clear bb40
      go_upto_region 32 with (fail)
      generalize w40.alloc _ = w41 at *
      generalize w40.heap.size = r7 at *
      clear GI GS
      cases o6
      · clear GB
        obtain ⟨k_r6a, k_r6b, k_r6c, k_r6d, k_r6e, k_r6f, k_r6l⟩ := blkC6 (r := r6) (T := 27) (w := w41) p2 q2 r2 s2 t2 u2 (hM (r6, #[.int .i64 p2, .int .i64 q2, .int .i64 r2, .int .i64 s2, .int .i64 t2, .int .i64 u2], 27) (by repeat (first | exact List.mem_cons_self .. | refine List.mem_cons_of_mem _ ?_)))
        obtain ⟨k_r7a, k_r7b, k_r7c, k_r7d, k_r7e, k_r7f, k_r7l⟩ := blkC6 (r := r7) (T := 27) (w := w41) p2 q2 r2 s2 t2 u2 (hM (r7, #[.int .i64 p2, .int .i64 q2, .int .i64 r2, .int .i64 s2, .int .i64 t2, .int .i64 u2], 27) (by repeat (first | exact List.mem_cons_self .. | refine List.mem_cons_of_mem _ ?_)))
        obtain ⟨k_rTa, k_rTb, k_rTc, k_rTd, k_rTe, k_rTf, k_rTl⟩ := blkC6 (r := rT) (T := 27) (w := w41) p q r s t u (hM (rT, #[.int .i64 p, .int .i64 q, .int .i64 r, .int .i64 s, .int .i64 t, .int .i64 u], 27) (by repeat (first | exact List.mem_cons_self .. | refine List.mem_cons_of_mem _ ?_)))
        obtain ⟨k_rDa, k_rDb, k_rDl⟩ := blkC2 (r := rD) (T := 49) (w := w41) ca 0 (hM (rD, #[.int .i64 ca, .int .i64 (0)], 49) (by repeat (first | exact List.mem_cons_self .. | refine List.mem_cons_of_mem _ ?_)))
        obtain ⟨k_rPa, k_rPb, k_rPc, k_rPl⟩ := blkC3 (r := rP) (T := 30) (w := w41) x y z (hM (rP, #[.int .i64 x, .int .i64 y, .int .i64 z], 30) (by repeat (first | exact List.mem_cons_self .. | refine List.mem_cons_of_mem _ ?_)))
        obtain ⟨k_rQa, k_rQb, k_rQc, k_rQl⟩ := blkC3 (r := rQ) (T := 30) (w := w41) x y z (hM (rQ, #[.int .i64 x, .int .i64 y, .int .i64 z], 30) (by repeat (first | exact List.mem_cons_self .. | refine List.mem_cons_of_mem _ ?_)))
        go_wp2_with fail
        refine (GP.out _).mono ?_
        rintro e wp ⟨rfl, hbp⟩
        have bbp := below_step hbp bb41.size bb41
        have hM2 := MemL.closed _ _ _ hM hbp
        clear hM
        have hM := hM2
        clear k_rQa k_rQb k_rQc k_rQl
        obtain ⟨k_rQa, k_rQb, k_rQc, k_rQl⟩ := blkC3 (r := rQ) (T := 30) (w := wp) x y z (hM (rQ, #[.int .i64 x, .int .i64 y, .int .i64 z], 30) (by repeat (first | exact List.mem_cons_self .. | refine List.mem_cons_of_mem _ ?_)))
        go_wp2
        go_meet
        case rel => exact bbp
      · obtain ⟨rfl, rfl, rfl, rfl, rfl, rfl⟩ := GB.out rfl
        clear GB
        obtain ⟨k_r6a, k_r6b, k_r6c, k_r6d, k_r6e, k_r6f, k_r6l⟩ := blkC6 (r := r6) (T := 27) (w := w41) p2 q2 r2 s2 t2 u2 (hM (r6, #[.int .i64 p2, .int .i64 q2, .int .i64 r2, .int .i64 s2, .int .i64 t2, .int .i64 u2], 27) (by repeat (first | exact List.mem_cons_self .. | refine List.mem_cons_of_mem _ ?_)))
        obtain ⟨k_r7a, k_r7b, k_r7c, k_r7d, k_r7e, k_r7f, k_r7l⟩ := blkC6 (r := r7) (T := 27) (w := w41) p2 q2 r2 s2 t2 u2 (hM (r7, #[.int .i64 p2, .int .i64 q2, .int .i64 r2, .int .i64 s2, .int .i64 t2, .int .i64 u2], 27) (by repeat (first | exact List.mem_cons_self .. | refine List.mem_cons_of_mem _ ?_)))
        obtain ⟨k_rTa, k_rTb, k_rTc, k_rTd, k_rTe, k_rTf, k_rTl⟩ := blkC6 (r := rT) (T := 27) (w := w41) p2 q2 r2 s2 t2 u2 (hM (rT, #[.int .i64 p2, .int .i64 q2, .int .i64 r2, .int .i64 s2, .int .i64 t2, .int .i64 u2], 27) (by repeat (first | exact List.mem_cons_self .. | refine List.mem_cons_of_mem _ ?_)))
        obtain ⟨k_rDa, k_rDb, k_rDl⟩ := blkC2 (r := rD) (T := 49) (w := w41) ca 0 (hM (rD, #[.int .i64 ca, .int .i64 (0)], 49) (by repeat (first | exact List.mem_cons_self .. | refine List.mem_cons_of_mem _ ?_)))
        obtain ⟨k_rPa, k_rPb, k_rPc, k_rPl⟩ := blkC3 (r := rP) (T := 30) (w := w41) x y z (hM (rP, #[.int .i64 x, .int .i64 y, .int .i64 z], 30) (by repeat (first | exact List.mem_cons_self .. | refine List.mem_cons_of_mem _ ?_)))
        obtain ⟨k_rQa, k_rQb, k_rQc, k_rQl⟩ := blkC3 (r := rQ) (T := 30) (w := w41) x y z (hM (rQ, #[.int .i64 x, .int .i64 y, .int .i64 z], 30) (by repeat (first | exact List.mem_cons_self .. | refine List.mem_cons_of_mem _ ?_)))
        go_wp2_with fail
        refine (GP.out _).mono ?_
        rintro e wp ⟨rfl, hbp⟩
        have bbp := below_step hbp bb41.size bb41
        have hM2 := MemL.closed _ _ _ hM hbp
        clear hM
        have hM := hM2
        clear k_rQa k_rQb k_rQc k_rQl
        obtain ⟨k_rQa, k_rQb, k_rQc, k_rQl⟩ := blkC3 (r := rQ) (T := 30) (w := wp) x y z (hM (rQ, #[.int .i64 x, .int .i64 y, .int .i64 z], 30) (by repeat (first | exact List.mem_cons_self .. | refine List.mem_cons_of_mem _ ?_)))
        go_wp2
        go_meet
        case rel => exact bbp
  rename World => we
  have bbe := below_step hcut bbd.size bbd
  replace hM := MemL.closed _ _ _ hM hcut
  clear hcut bbd
  clear BA Q3
  go_upto_if 336 with (fail)
  go_cut [] from 371 (fun wf => Below we.heap.size we wf)
  case first =>
    clear bbe S7
    cases five
    · clear F5
      go_wp2
      go_meet
      case rel => exact Below.refl _ _
    · obtain ⟨own, told, hC, hd⟩ := F5.out rfl
      have GC := Lib.hid hC
      clear hC F5
      have bbe : Below we.heap.size we we := Below.refl _ _
      obtain ⟨k_rUa, k_rUb, k_rUc, k_rUd, k_rUe, k_rUf, k_rUl⟩ := blkC6 (r := rU) (T := 27) (w := we) g1 g2 g3 g4 g5 g6 (hM (rU, #[.int .i64 g1, .int .i64 g2, .int .i64 g3, .int .i64 g4, .int .i64 g5, .int .i64 g6], 27) (by repeat (first | exact List.mem_cons_self .. | refine List.mem_cons_of_mem _ ?_)))
      go_wp2_with fail
      refine (GC.out _).mono ?_
      rintro e w42 ⟨rfl, hb42⟩
      have bb42 := below_step hb42 bbe.size bbe
      replace hM := MemL.closed _ _ _ hM hb42
      clear hb42 bbe
      clear k_rUa k_rUb k_rUc k_rUd k_rUe k_rUf k_rUl
      clear GC hM
      cases told
      · clear hd
        go_wp2
        go_meet
        case rel => exact bb42
      · obtain rfl : own = true := hd rfl
        clear hd
        go_wp2
        go_meet
        case rel => exact bb42
  rename World => wf
  have bbf := below_step hcut bbe.size bbe
  replace hM := MemL.closed _ _ _ hM hcut
  clear hcut bbe
  clear F5
  go_upto_if 348 with (fail)
  go_cut [] from 371 (fun wg => Below wf.heap.size wf wg)
  case first =>
    clear bbf
    cases seven
    · clear S7
      go_wp2
      go_meet
      case rel => exact Below.refl _ _
    · obtain ⟨⟨own, told, hC, hd⟩, hE⟩ := S7.out rfl
      have GC := Lib.hid hC
      have GE := Lib.hid hE
      clear hC hE S7
      have bbf : Below wf.heap.size wf wf := Below.refl _ _
      obtain ⟨k_rSa, k_rSb, k_rSc, k_rSd, k_rSe, k_rSf, k_rSl⟩ := blkC6 (r := rS) (T := 27) (w := wf) j1 j2 j3 j4 j5 j6 (hM (rS, #[.int .i64 j1, .int .i64 j2, .int .i64 j3, .int .i64 j4, .int .i64 j5, .int .i64 j6], 27) (by repeat (first | exact List.mem_cons_self .. | refine List.mem_cons_of_mem _ ?_)))
      go_wp2_with fail
      refine (GC.out _).mono ?_
      rintro e w43 ⟨rfl, hb43⟩
      have bb43 := below_step hb43 bbf.size bbf
      replace hM := MemL.closed _ _ _ hM hb43
      clear hb43 bbf
      clear k_rSa k_rSb k_rSc k_rSd k_rSe k_rSf k_rSl
      clear GC
      cases told
      · clear hd
        go_wp2_with fail
        refine (GE.out _).mono ?_
        rintro e w44 ⟨rfl, hb44⟩
        have bb44 := below_step hb44 bb43.size bb43
        replace hM := MemL.closed _ _ _ hM hb44
        clear hb44 bb43
        go_wp2
        go_meet
        case rel => exact bb44
      · obtain rfl : own = true := hd rfl
        clear hd
        go_wp2_with fail
        refine (GE.out _).mono ?_
        rintro e w45 ⟨rfl, hb45⟩
        have bb45 := below_step hb45 bb43.size bb43
        replace hM := MemL.closed _ _ _ hM hb45
        clear hb45 bb43
        go_wp2
        go_meet
        case rel => exact bb45
  rename World => wg
  have bbg := below_step hcut bbf.size bbf
  replace hM := MemL.closed _ _ _ hM hcut
  clear hcut bbf
  go_wp2
  go_ret
  exact ⟨rfl, bbg⟩
end Go.Proofs.Ytcnfjapoopdiaaa
