/- Walks: the law of SquaresAround. -/
import Derived.Test.YtagmflioeelhjaaSqs
import Derived.Deep.Cut
namespace Go.Proofs.Ytagmflioeelhjaa
open Go.RowKit

theorem fr3P_congr {w w1 : World} {a b c d e f a' b' c' d' e' f' : Int} {o o' : Bool} {x : Ending} (ho : o = o') (h : o = true → a = a' ∧ b = b' ∧ c = c' ∧ d = d' ∧ e = e' ∧ f = f') (k : fr3P w a b c d e f o x w1) : fr3P w a' b' c' d' e' f' o' x w1 := by
  subst ho
  cases o
  · exact k
  · obtain ⟨rfl, rfl, rfl, rfl, rfl, rfl⟩ := h rfl
    exact k
def sN1 (p q r s : Int) : Int := mkN (r * q - p * s) (s * q)
def sD1 (p q r s : Int) : Int := mkD (r * q - p * s) (s * q)
def sN4 (p q r s : Int) : Int := mkN (p * s + r * q) (q * s)
def sD4 (p q r s : Int) : Int := mkD (p * s + r * q) (q * s)
def sqO (p q r s t u : Int) : Bool := mOk (r * q - p * s) (s * q) && mOk (sN1 p q r s * 1) (sD1 p q r s * 2) && mOk (t * 1) (u * 2) && mOk (p * s + r * q) (q * s) && mOk (sN4 p q r s * 1) (sD4 p q r s * 2)
def sqP (n p q r s t u : Int) (w : World) : Ending → World → Prop :=
  fr3P w (mkN (sN1 p q r s * 1) (sD1 p q r s * 2)) (mkD (sN1 p q r s * 1) (sD1 p q r s * 2)) (mkN (t * 1) (u * 2)) (mkD (t * 1) (u * 2)) (mkN (sN4 p q r s * 1) (sD4 p q r s * 2)) (mkD (sN4 p q r s * 1) (sD4 p q r s * 2)) (vlB n p q r s t u && sqO p q r s t u)
theorem vlB_of {n p q r s t u : Int} (h : vlB n p q r s t u = true) : areaB n = true ∧ triOk p q r s t u = true ∧ tOk p q r s t u = true ∧ tIs n p q r s t u = true := by
  unfold vlB itOk at h
  simp only [Bool.and_eq_true] at h
  exact ⟨h.1.1.1, h.1.1.2, h.1.2, h.2⟩
theorem c_sSquares (n p q r s t u : Int) (w : World) : Calls Try.prog 19 #[.int .i64 n, .agg #[.int .i64 p, .int .i64 q, .int .i64 r, .int .i64 s, .int .i64 t, .int .i64 u]] w (sqP n p q r s t u w) := by
  unfold sqP
  cases h : vlB n p q r s t u
  · exact c_sSquares_no n p q r s t u _ _ _ _ _ _ h w
  · obtain ⟨_, ht, _, _⟩ := vlB_of h
    obtain ⟨h1, h2, h3⟩ := triOk_of ht
    have k := c_sSquares_of n p q r s t u _ _ _ _ _ _ _ _ _ _ _ _ _ _ _ h (Lib.hid (c_frSub r s p q h2 h1)) (Lib.hid (c_cnHalf _ _ _ (fun hm => by rw [hm]; exact mOk_fr hm))) (Lib.hid (c_cnHalf t u true (fun _ => h3))) (Lib.hid (c_frAdd p q r s h1 h2)) (Lib.hid (c_cnHalf _ _ _ (fun hm => by rw [hm]; exact mOk_fr hm))) w
    refine k.mono fun e w1 hk => fr3P_congr ?_ ?_ hk
    · unfold sqO sN1 sD1 sN4 sD4
      cases mOk (r * q - p * s) (s * q) <;> cases mOk (p * s + r * q) (q * s) <;> simp [rsI, Bool.and_assoc]
    · intro ho
      unfold sN1 sD1 sN4 sD4
      cases hm1 : mOk (r * q - p * s) (s * q) <;> cases hm4 : mOk (p * s + r * q) (q * s) <;> rw [hm1, hm4] at ho <;> simp [rsI] at ho ⊢
      simp [ho]
theorem c_iSquares (n p q r s t u : Int) (w : World) : Calls Try.prog 20 #[.int .i64 n, .agg #[.int .i64 p, .int .i64 q, .int .i64 r, .int .i64 s, .int .i64 t, .int .i64 u]] w (sqP n p q r s t u w) := by
  unfold sqP
  cases h : vlB n p q r s t u
  · exact c_iSquares_no n p q r s t u _ _ _ _ _ _ h w
  · obtain ⟨ha, ht, ho, hi⟩ := vlB_of h
    obtain ⟨h1, h2, h3⟩ := triOk_of ht
    have hI := fun w => c_isTriangle n p q r s t u (areaB_of ha) ht w
    rw [ho, hi] at hI
    have hw := k_whole 2 true (by omega)
    obtain ⟨e1, e2, e3⟩ := mk_one (n := 2) (by omega)
    rw [e1, e2, e3] at hw
    have h21 : frOk 2 1 = true := by decide
    have k := c_iSquares_of n p q r s t u _ _ _ _ _ _ _ _ _ _ _ _ _ _ _ ha ht (Lib.hid hI) (Lib.hid hw) (Lib.hid (k_minus r s p q true h2 h1)) (Lib.hid (k_over _ _ 2 1 _ fr_if h21)) (Lib.hid (k_over t u 2 1 _ h3 h21)) (Lib.hid (k_plus p q r s _ h1 h2)) (Lib.hid (k_over _ _ 2 1 _ fr_if h21)) w
    refine k.mono fun e w1 hk => fr3P_congr ?_ ?_ hk
    · unfold sqO sN1 sD1 sN4 sD4
      cases hm1 : mOk (r * q - p * s) (s * q)
      · simp
      · simp only [Bool.true_and, if_true]
        cases hm2 : mOk (mkN (r * q - p * s) (s * q) * 1) (mkD (r * q - p * s) (s * q) * 2)
        · simp
        · cases hm3 : mOk (t * 1) (u * 2)
          · simp
          · cases hm4 : mOk (p * s + r * q) (q * s) <;> simp
    · unfold sN1 sD1 sN4 sD4
      cases hm1 : mOk (r * q - p * s) (s * q)
      · intro h; simp at h
      · simp only [Bool.true_and, if_true]
        cases hm2 : mOk (mkN (r * q - p * s) (s * q) * 1) (mkD (r * q - p * s) (s * q) * 2)
        · intro h; simp at h
        · cases hm3 : mOk (t * 1) (u * 2)
          · intro h; simp at h
          · cases hm4 : mOk (p * s + r * q) (q * s)
            · intro h; simp at h
            · intro h
              simp only [Bool.true_and, if_true] at h ⊢
              rw [h]
              simp
theorem sqP_form (n p q r s t u : Int) : ∃ (a b c d e f : Int) (o : Bool), ∀ w, sqP n p q r s t u w = fun e' w' => e' = .returned (.tuple #[.agg #[.int .i64 a, .int .i64 b], .agg #[.int .i64 c, .int .i64 d], .agg #[.int .i64 e, .int .i64 f], .bool o]) ∧ Below w.heap.size w w' := ⟨_, _, _, _, _, _, _, fun _ => rfl⟩
theorem box3 (w : World) (a b c d e0 f : Int) :
    Blk w.heap.size #[.int .i64 a, .int .i64 b] 32 (((w.alloc (.cells #[.int .i64 a, .int .i64 b] 32)).alloc (.cells #[.int .i64 c, .int .i64 d] 32)).alloc (.cells #[.int .i64 e0, .int .i64 f] 32)) ∧ Blk (w.heap.size + 1) #[.int .i64 c, .int .i64 d] 32 (((w.alloc (.cells #[.int .i64 a, .int .i64 b] 32)).alloc (.cells #[.int .i64 c, .int .i64 d] 32)).alloc (.cells #[.int .i64 e0, .int .i64 f] 32)) ∧ Blk (w.heap.size + 1 + 1) #[.int .i64 e0, .int .i64 f] 32 (((w.alloc (.cells #[.int .i64 a, .int .i64 b] 32)).alloc (.cells #[.int .i64 c, .int .i64 d] 32)).alloc (.cells #[.int .i64 e0, .int .i64 f] 32)) ∧ Below w.heap.size w (((w.alloc (.cells #[.int .i64 a, .int .i64 b] 32)).alloc (.cells #[.int .i64 c, .int .i64 d] 32)).alloc (.cells #[.int .i64 e0, .int .i64 f] 32)) := by
  refine ⟨((Blk.new w _ _).alloc _).alloc _, ?_, ?_, by (repeat' (first | (with_reducible exact Below.refl _ _) | (with_reducible refine below_step (by assumption) ?_ ?_) | (with_reducible refine Below.alloc ?_ ?_ _) | (with_reducible refine Below.setCell ?_ ?_ _) | (with_reducible refine below_drewN ?_ _) | (with_reducible refine Below.drew ?_) | omega | (simp; omega) | (simp; done)))⟩
  · have := (Blk.new (w.alloc (.cells #[.int .i64 a, .int .i64 b] 32)) #[.int .i64 c, .int .i64 d] 32).alloc (.cells #[.int .i64 e0, .int .i64 f] 32)
    simpa using this
  · have := Blk.new ((w.alloc (.cells #[.int .i64 a, .int .i64 b] 32)).alloc (.cells #[.int .i64 c, .int .i64 d] 32)) #[.int .i64 e0, .int .i64 f] 32
    simpa using this
theorem c_eqFr (A B : Int) (w : World) :
    Calls Try.prog 21 #[.agg #[.int .i64 A, .int .i64 B], .agg #[.int .i64 A, .int .i64 B]] w fun e w' => e = .returned (.bool true) ∧ Below w.heap.size w w' := by
  have h3 : (A != A) = false := by simp
  have h4 : (B != B) = false := by simp
  go_enter Try.func21, Try.ntmps21
  go_wp2
  go_ret
  refine ⟨rfl, ?_⟩
  go_grown
set_option maxHeartbeats 4000000 in
theorem walk_FnExactSquaresAround (n p q r s t u : Int) (_ : (Lit.int .i64 n).wf = true) (_ : (Lit.int .i64 p).wf = true) (_ : (Lit.int .i64 q).wf = true) (_ : (Lit.int .i64 r).wf = true) (_ : (Lit.int .i64 s).wf = true) (_ : (Lit.int .i64 t).wf = true) (_ : (Lit.int .i64 u).wf = true) (w : World) :
    Calls Try.prog 6 #[.int .i64 n, .agg #[.int .i64 p, .int .i64 q, .int .i64 r, .int .i64 s, .int .i64 t, .int .i64 u]] w fun e w' => e = .returned (.bool true) ∧ Below w.heap.size w w' := by
  have h1 := c_sSquares n p q r s t u
  have h2 := c_iSquares n p q r s t u
  obtain ⟨a, b, c, d, e0, f, o, hf⟩ := sqP_form n p q r s t u
  simp only [hf] at h1 h2
  have H1 := Lib.hid h1
  have H2 := Lib.hid h2
  clear h1 h2 hf
  have kb := Blk.new w #[.int .i64 p, .int .i64 q, .int .i64 r, .int .i64 s, .int .i64 t, .int .i64 u] 30
  go_enter Try.func6, Try.ntmps6
  go_wp2_with fail
  refine (c_toTriangle _ _ _ _ _ _ _).mono ?_
  rintro e w1 ⟨rfl, hb1⟩
  have kb1 := kb.next hb1
  have hz1 := hb1.size
  (try simp only [World.size_alloc] at hz1)
  have hB1 : Below w.heap.size w w1 := by (repeat' (first | (with_reducible exact Below.refl _ _) | (with_reducible refine below_step (by assumption) ?_ ?_) | (with_reducible refine Below.alloc ?_ ?_ _) | (with_reducible refine Below.setCell ?_ ?_ _) | (with_reducible refine below_drewN ?_ _) | (with_reducible refine Below.drew ?_) | omega | (simp; omega) | (simp; done)))
  go_wp2_with fail
  refine (H1.out _).mono ?_
  rintro e w2 ⟨rfl, hb2⟩
  have kb2 := kb1.next hb2
  have hB2 := below_step hb2 hB1.size hB1
  have hs2 := hB2.size
  obtain ⟨kX, kY, kZ, hx⟩ := box3 w2 a b c d e0 f
  have kb3 := kb2.next hx
  have hB3 := below_step hx hs2 hB2
  have hs3 := hB3.size
  have hlb := kb3.lt
  go_upto_region 2 with (fail)
  generalize ((w2.alloc _).alloc _).alloc _ = W3 at *
  have kb30 : (W3).cell? ⟨w.heap.size, 0, none⟩ = some (.int .i64 p) := kb3.cell 0; have kb31 : (W3).cell? ⟨w.heap.size, 1, none⟩ = some (.int .i64 q) := kb3.cell 1; have kb32 : (W3).cell? ⟨w.heap.size, 2, none⟩ = some (.int .i64 r) := kb3.cell 2; have kb33 : (W3).cell? ⟨w.heap.size, 3, none⟩ = some (.int .i64 s) := kb3.cell 3; have kb34 : (W3).cell? ⟨w.heap.size, 4, none⟩ = some (.int .i64 t) := kb3.cell 4; have kb35 : (W3).cell? ⟨w.heap.size, 5, none⟩ = some (.int .i64 u) := kb3.cell 5; have kb3l : w.heap.size < (W3).heap.size := kb3.lt
  go_wp2_with fail
  refine (c_toTriangle _ _ _ _ _ _ _).mono ?_
  rintro e w4 ⟨rfl, hb4⟩
  have hB4 := below_step hb4 hs3 hB3
  go_wp2_with fail
  refine (H2.out _).mono ?_
  rintro e w5 ⟨rfl, hb5⟩
  have hB5 := below_step hb5 hB4.size hB4
  have hs5 := hB5.size
  have kX5 := (kX.next hb4).next hb5
  have kY5 := (kY.next hb4).next hb5
  have kZ5 := (kZ.next hb4).next hb5
  obtain ⟨kP, kQ, kR, hy⟩ := box3 w5 a b c d e0 f
  have kX6 := kX5.next hy
  have kY6 := kY5.next hy
  have kZ6 := kZ5.next hy
  have hB6 := below_step hy hs5 hB5
  have hs6 := hB6.size
  clear kX kY kZ kX5 kY5 kZ5 hx hy kb kb1 kb2
  go_upto_region 3 with (fail)
  generalize ((w5.alloc _).alloc _).alloc _ = W6 at *
  have kX60 : (W6).cell? ⟨w2.heap.size, 0, none⟩ = some (.int .i64 a) := kX6.cell 0; have kX61 : (W6).cell? ⟨w2.heap.size, 1, none⟩ = some (.int .i64 b) := kX6.cell 1; have kX6l : w2.heap.size < (W6).heap.size := kX6.lt
  have kP0 : (W6).cell? ⟨w5.heap.size, 0, none⟩ = some (.int .i64 a) := kP.cell 0; have kP1 : (W6).cell? ⟨w5.heap.size, 1, none⟩ = some (.int .i64 b) := kP.cell 1; have kPl : w5.heap.size < (W6).heap.size := kP.lt
  go_wp2_with fail
  refine (c_eqFr _ _ _).mono ?_
  rintro e w7 ⟨rfl, hb7⟩
  have hB7 := below_step hb7 hs6 hB6
  have kY7 := kY6.next hb7
  have kQ7 := kQ.next hb7
  have kZ7 := kZ6.next hb7
  have kR7 := kR.next hb7
  have kY70 : (w7).cell? ⟨w2.heap.size + 1, 0, none⟩ = some (.int .i64 c) := kY7.cell 0; have kY71 : (w7).cell? ⟨w2.heap.size + 1, 1, none⟩ = some (.int .i64 d) := kY7.cell 1; have kY7l : w2.heap.size + 1 < (w7).heap.size := kY7.lt
  have kQ70 : (w7).cell? ⟨w5.heap.size + 1, 0, none⟩ = some (.int .i64 c) := kQ7.cell 0; have kQ71 : (w7).cell? ⟨w5.heap.size + 1, 1, none⟩ = some (.int .i64 d) := kQ7.cell 1; have kQ7l : w5.heap.size + 1 < (w7).heap.size := kQ7.lt
  go_wp2_with fail
  refine (c_eqFr _ _ _).mono ?_
  rintro e w8 ⟨rfl, hb8⟩
  have hB8 := below_step hb8 hB7.size hB7
  have kZ8 := kZ7.next hb8
  have kR8 := kR7.next hb8
  have kZ80 : (w8).cell? ⟨w2.heap.size + 1 + 1, 0, none⟩ = some (.int .i64 e0) := kZ8.cell 0; have kZ81 : (w8).cell? ⟨w2.heap.size + 1 + 1, 1, none⟩ = some (.int .i64 f) := kZ8.cell 1; have kZ8l : w2.heap.size + 1 + 1 < (w8).heap.size := kZ8.lt
  have kR80 : (w8).cell? ⟨w5.heap.size + 1 + 1, 0, none⟩ = some (.int .i64 e0) := kR8.cell 0; have kR81 : (w8).cell? ⟨w5.heap.size + 1 + 1, 1, none⟩ = some (.int .i64 f) := kR8.cell 1; have kR8l : w5.heap.size + 1 + 1 < (w8).heap.size := kR8.lt
  go_wp2_with fail
  refine (c_eqFr _ _ _).mono ?_
  rintro e w9 ⟨rfl, hb9⟩
  have hB9 := below_step hb9 hB8.size hB8
  go_wp2
  go_ret
  exact ⟨rfl, hB9⟩
end Go.Proofs.Ytagmflioeelhjaa
