/- Several texts joined: PcY PcT PcZ PdA. -/
import Derived.Test.YtbmcabphjfpkhaaGreatPcX
import Derived.Test.YtbmcabphjfpkhaaGreatMgc
import Derived.Test.YtbmcabphjfpkhaaGreatMgd
import Derived.Test.YtbmcabphjfpkhaaGreatFrac
import Derived.Test.YtbmcabphjfpkhaaGreatPairI
import Derived.Test.YtbmcabphjfpkhaaGreatPcH
/- PcY -/
namespace Go.Proofs.YtbmcabphjfpkhaaGreat
set_option linter.all false
open Go.RowKit

theorem sqB_iff (n : Int) : sqB n = true ↔ ∃ x : Int, 0 ≤ x ∧ x * x = n := by
  unfold sqB
  rw [beq_iff_eq]
  constructor
  · intro h; exact ⟨rtI n, rtI_nonneg n, h⟩
  · rintro ⟨x, hx, hxx⟩
    have h1 : x = rtI n := rtI_uniq hx (by omega) (by
      have : (x + 1) * (x + 1) = x * x + 2 * x + 1 := by grind
      omega)
    rw [← h1]; exact hxx
/-- rows of lists, told by their number alone -/
def OwnsN (w : World) (base : Nat) (v : Value) (n : Nat) : Prop := ∃ rows : List Value, w.ownsRow base 29 1 v n rows
theorem OwnsN.nil (w : World) (base : Nat) : OwnsN w base (.slice none 0 0) 0 := ⟨[], World.ownsRow_nil _ _ _ _⟩
theorem OwnsN.form {w : World} {base n : Nat} {v : Value} (h : OwnsN w base v n) : ∃ a cap, v = .slice a n cap := by
  obtain ⟨rows, h⟩ := h
  rcases h.2 with ⟨hv, hn⟩ | ⟨g, cap, cur, hv, _⟩
  · exact ⟨none, 0, by rw [hv, hn]⟩
  · exact ⟨_, cap, hv⟩
theorem OwnsN.below {w w1 : World} {base n : Nat} {v : Value} (h : OwnsN w base v n) (hb : Below w.heap.size w w1) : OwnsN w1 base v n := by
  obtain ⟨rows, h⟩ := h
  exact ⟨rows, own_below h hb⟩
theorem wpList_app_row {ops : Array Oper} {rest : List Oper} {o : Oper} {a : Act} {Q : Exit → Act → World → Prop} {wr : World} {x y z : Int} (hgd : o.guard = none) (s x0 : Operand)
    (ho : o.op = .call { callee := .builtin .append, args := #[s, x0], argTypes := #[46, 46] })
    (base : Nat) (v : Value) (n : Nat) (hs : a.eval s = v) (hown : OwnsN wr base v n) (hx : a.eval x0 = .slice (some ⟨wr.heap.size + 1, 0, none⟩) 1 1)
    (hlen : n < 1000000000000) (hbase : base ≤ wr.heap.size)
    (h : ∀ v' w1, OwnsN w1 base v' (n + 1) → Below base wr w1 → wpList Tryz.prog ops Q rest (a.put o.dst v') w1) :
    wpList Tryz.prog ops Q (o :: rest) a ((wr.alloc (.cells #[.int .i64 x, .int .i64 y, .int .i64 z] 3)).alloc (.cells #[.slice (some ⟨wr.heap.size, 0, none⟩) 3 3] 29)) := by
  obtain ⟨i0, hi, hz0, hz1, hz2⟩ := info_parts Tryz.infoR
  obtain ⟨rows, hown⟩ := hown
  refine wpList_append_own _ hgd s x0 46 ho base 29 i0 (.slice none 0 0) 1 24 Tryz.underlying46 hi hz0 hz1 hz2 rfl (by decide) v n rows hs ((hown.alloc _).alloc _) ⟨wr.heap.size + 1, 0, none⟩ 1 1 [.slice (some ⟨wr.heap.size, 0, none⟩) 3 3] hx rfl ?_ ?_ ?_ ?_ ?_ ?_
  · intro j u hj
    match j, hj with
    | 0, hj =>
      simp at hj; subst hj
      show ((wr.alloc (.cells #[.int .i64 x, .int .i64 y, .int .i64 z] 3)).alloc (.cells #[.slice (some ⟨wr.heap.size, 0, none⟩) 3 3] 29)).cell? ⟨wr.heap.size + 1, 0, none⟩ = _
      rw [World.cell?_alloc_at _ _ _ _ (by simp)]; rfl
  · intro u hu; simp at hu; subst hu; rfl
  · unfold maxLen; omega
  · omega
  · simp; omega
  · intro v' w1 hown' hgrow _
    refine h v' w1 ⟨_, hown'⟩ ?_
    exact (((Below.refl base wr).alloc hbase _).alloc (by simp; omega) _).grown hgrow (by simp; omega) (fun k hk => (hown.lt k hk).1)
/-- is m, e the place of a point -/
def hitB (D A C : Int) (m e : Nat) : Bool := gcdI m e == 1 && sqB (qvV D A C m e)
def anyB : Nat → (Nat → Bool) → Bool
  | 0, _ => false
  | k + 1, f => anyB k f || f k
/-- has a quartic a point within a bound -/
def ptB (D A C : Int) (k : Nat) : Bool := anyB k fun m => anyB k fun e => hitB D A C m e
/-- a list of rows, none of them if the quartic has no point -/
def PtsP (w : World) (b : Bool) (e : Ending) (w' : World) : Prop := ∃ a n cap, e = .returned (.slice a n cap) ∧ n ≤ 5000 ∧ decide (0 < n) = b ∧ Below w.heap.size w w'
theorem dec_more {n : Nat} {b c : Bool} (h : decide (0 < n) = b) : decide (0 < n + 1) = (b || (c || true)) := by simp
theorem c_seRootB (n : Int) (hn : n ≤ 4000000000000) (hn0 : -4000000000000 ≤ n) (w : World) :
    Calls Tryz.prog 83 #[.int .i64 n] w fun e w' => (∃ r : Int, e = .returned (.int .i64 r) ∧ (-1 ≤ r ∧ r ≤ 4000000) ∧ decide (0 ≤ r) = sqB n) ∧ w = w' :=
  (c_seRoot n hn hn0 w).mono fun e w' ⟨⟨r, h1, h2, h3⟩, h4⟩ => ⟨⟨r, h1, h2, by rw [Bool.eq_iff_iff, decide_eq_true_eq, sqB_iff]; exact h3⟩, h4.symm⟩
theorem ten_in {D A C : Int} (hD : -91200 ≤ D ∧ D ≤ 91200) (hA : -91200 ≤ A ∧ A ≤ 91200) (hC : -91200 ≤ C ∧ C ≤ 91200) {m e : Nat} (hm : m ≤ 60) (he : e ≤ 60) : -4000000000000 ≤ qvV D A C m e ∧ qvV D A C m e ≤ 4000000000000 :=
  qv_in hD hA hC (by omega) (by omega)
set_option maxHeartbeats 2000000 in
theorem c_points (D A C : Int) (k : Nat) (hk : 1 ≤ k ∧ k ≤ 60) (hD : -91200 ≤ D ∧ D ≤ 91200) (hA : -91200 ≤ A ∧ A ≤ 91200) (hC : -91200 ≤ C ∧ C ≤ 91200) (w : World) :
    Calls Tryz.prog 51 #[.agg #[.int .i64 D, .int .i64 A, .int .i64 C], .int .i64 k] w (PtsP w (ptB D A C (k + 1))) := by
  have HI := Lib.hid (fun (m e : Nat) (hm : m ≤ 60) (he : e ≤ 60) => ten_in hD hA hC hm he)
  have HV := Lib.hid (fun (m e : Nat) (hm : m ≤ 60) (he : e ≤ 60) W => c_value D A C m e hD hA hC (by omega) (by omega) W)
  have HG := Lib.hid (fun (m e : Nat) (hm : m ≤ 60) (he : e ≤ 60) W => c_gcd m e (by omega) (by omega) W)
  have kQ := Blk.new w #[.int .i64 D, .int .i64 A, .int .i64 C] 43
  have hb0 : Below w.heap.size w (w.alloc (.cells #[.int .i64 D, .int .i64 A, .int .i64 C] 43)) := (Below.refl _ _).alloc (Nat.le_refl _) _
  have hz0 := hb0.size
  unfold PtsP
  generalize hB : ptB D A C (k + 1) = B
  have HB := Lib.hid hB
  clear hB
  go_enter Tryz.func51, Tryz.ntmps51
  go_upto_region 1 with (fail)
  generalize w.alloc _ = W at *
  have hqs := kQ.lt
  go_wp2
  go_loopw [5, 12] (fun o i wr => ∃ (m n : Nat), m ≤ k + 1 ∧ i = .int .i64 m ∧ OwnsN wr W.heap.size o n ∧ n ≤ 61 * m ∧ Hid (decide (0 < n) = anyB m fun m => anyB (k + 1) fun e => hitB D A C m e) ∧ Below W.heap.size W wr) (fun _ i _ => k + 1 - (intOf i).toNat)
  case atStart => exact ⟨0, 0, Nat.zero_le _, rfl, OwnsN.nil _ _, by omega, Lib.hid rfl, Below.refl _ _⟩
  case round =>
    obtain ⟨m, n, hm, rfl, hO, hn, HN, hb⟩ := hrel
    by_cases hlt : m < k + 1
    · have m0 : (m : Int) < (k : Int) + 1 := by omega
      go_wp2
      go_loopw [5, 17] (fun o i wr => ∃ (e n : Nat), e ≤ k + 1 ∧ i = .int .i64 e ∧ OwnsN wr W.heap.size o n ∧ n ≤ 61 * m + e ∧ Hid (decide (0 < n) = ((anyB m fun m => anyB (k + 1) fun e => hitB D A C m e) || anyB e fun e => hitB D A C m e)) ∧ Below W.heap.size W wr) (fun _ i _ => k + 1 - (intOf i).toNat)
      case atStart => exact ⟨0, n, Nat.zero_le _, rfl, hO, by omega, Lib.hid (by rw [HN.out]; simp [anyB]), hb⟩
      case round =>
        clear hO hb hn HN
        obtain ⟨e, n, he, rfl, hO, hn, HN, hb⟩ := hrel
        by_cases hlt2 : e < k + 1
        · have HE : Hid (∀ b, hitB D A C m e = b → ∀ n', decide (0 < n') = (decide (0 < n) || b) → decide (0 < n') = ((anyB m fun m => anyB (k + 1) fun e => hitB D A C m e) || anyB (e + 1) fun e => hitB D A C m e)) := Lib.hid fun b hb n' h => by
            rw [h, HN.out, Bool.or_assoc]
            conv => rhs; rhs; rw [anyB]
            rw [hb]
          have HH : Hid (hitB D A C m e = (gcdI m e == 1 && sqB (qvV D A C m e))) := rfl
          have hv := HI.out m e (by omega) (by omega)
          have Hv := Lib.hid (HV.out m e (by omega) (by omega))
          have Hg := Lib.hid (HG.out m e (by omega) (by omega))
          clear HN
          have q0 := (hb.cell (p := ⟨w.heap.size, 0, none⟩) hqs).trans (kQ.cell 0)
          have q1 := (hb.cell (p := ⟨w.heap.size, 1, none⟩) hqs).trans (kQ.cell 1)
          have q2 := (hb.cell (p := ⟨w.heap.size, 2, none⟩) hqs).trans (kQ.cell 2)
          simp only [List.getElem?_toArray, List.getElem?_cons_zero, List.getElem?_cons_succ] at q0 q1 q2
          generalize qvV D A C m e = val at *
          generalize gcdI m e = gg at *
          have hz := hb.size
          by_cases hg1 : gg = 1
          · subst hg1
            cases hs : sqB val
            · have hf : hitB D A C m e = false := by rw [HH.out, hs]; rfl
              go_wp2_with fail
              refine (Hg.out _).mono ?_
              rintro e1 w2 ⟨rfl, kd, rfl⟩
              have hb2 := below_drewN hb kd
              have r0 : (wr.drewN kd).cell? ⟨w.heap.size, 0, none⟩ = some (.int .i64 D) := q0
              have r1 : (wr.drewN kd).cell? ⟨w.heap.size, 1, none⟩ = some (.int .i64 A) := q1
              have r2 : (wr.drewN kd).cell? ⟨w.heap.size, 2, none⟩ = some (.int .i64 C) := q2
              have hO2 : OwnsN (wr.drewN kd) W.heap.size _ n := hO.below (below_drewN (Below.refl _ _) kd)
              generalize wr.drewN kd = wd at *
              go_wp2_with fail
              refine (Hv.out _).mono ?_
              rintro e2 w3 ⟨rfl, hb3⟩
              go_wp2_with fail
              refine (c_exactRootA val hv _).mono ?_
              rintro e3 w4 ⟨rfl, rfl⟩
              rw [hs]
              go_wp2
              go_roundw
              case rel => exact ⟨e + 1, n, by omega, by go_num, hO2.below hb3, by omega, Lib.hid (HE.out _ hf n (by simp)), below_step hb3 hb2.size hb2⟩
              case measure => simp [intOf]; omega
            · have hf : hitB D A C m e = true := by rw [HH.out, hs]; rfl
              have hr1 := (rtI_spec (n := val) (by
                obtain ⟨x, hx, hxx⟩ := (sqB_iff val).1 hs
                have := Int.mul_nonneg hx hx
                omega)).1
              go_wp2_with fail
              refine (Hg.out _).mono ?_
              rintro e1 w2 ⟨rfl, kd, rfl⟩
              have hb2 := below_drewN hb kd
              have r0 : (wr.drewN kd).cell? ⟨w.heap.size, 0, none⟩ = some (.int .i64 D) := q0
              have r1 : (wr.drewN kd).cell? ⟨w.heap.size, 1, none⟩ = some (.int .i64 A) := q1
              have r2 : (wr.drewN kd).cell? ⟨w.heap.size, 2, none⟩ = some (.int .i64 C) := q2
              have hO2 : OwnsN (wr.drewN kd) W.heap.size _ n := hO.below (below_drewN (Below.refl _ _) kd)
              generalize wr.drewN kd = wd at *
              go_wp2_with fail
              refine (Hv.out _).mono ?_
              rintro e2 w3 ⟨rfl, hb3⟩
              have hO3 := hO2.below hb3
              have hb4 := below_step hb3 hb2.size hb2
              have hz4 := hb4.size
              go_wp2_with fail
              refine (c_exactRootA val hv _).mono ?_
              rintro e3 w4 ⟨rfl, rfl⟩
              rw [hs, if_pos rfl]
              generalize rtI val = rt at *
              go_wp2_with (at_builtin; refine wpList_app_row (x := (m : Int)) (y := (e : Int)) (z := rt) rfl _ _ rfl W.heap.size _ n rfl hO3 rfl (by omega) hz4 ?_; intro v5 w5 hO5 hb5; have hB5 := hb4.trans hb5)
              go_wp2
              go_roundw
              case rel => exact ⟨e + 1, n + 1, by omega, by go_num, hO5, by omega, Lib.hid (HE.out _ hf (n + 1) (by simp)), hB5⟩
              case measure => simp [intOf]; omega
          · have hf : hitB D A C m e = false := by rw [HH.out]; simp [hg1]
            have hg2 : (gg != 1) = true := by simp [hg1]
            go_wp2_with fail
            refine (Hg.out _).mono ?_
            rintro e1 w2 ⟨rfl, kd, rfl⟩
            have hb2 := below_drewN hb kd
            have hO2 : OwnsN (wr.drewN kd) W.heap.size _ n := hO.below (below_drewN (Below.refl _ _) kd)
            go_wp2
            go_roundw
            case rel => exact ⟨e + 1, n, by omega, by go_num, hO2, by omega, Lib.hid (HE.out _ hf n (by simp)), hb2⟩
            case measure => simp [intOf]; omega
        · obtain rfl : e = k + 1 := by omega
          have HS : Hid (decide (0 < n) = anyB (m + 1) fun m => anyB (k + 1) fun e => hitB D A C m e) := Lib.hid (by rw [HN.out]; conv => rhs; rw [anyB])
          clear HN
          go_wp2
          go_roundw
          case rel => exact ⟨m + 1, n, by omega, by go_num, hO, by omega, HS, hb⟩
          case measure => simp [intOf]; omega
    · obtain rfl : m = k + 1 := by omega
      obtain ⟨a, cap, rfl⟩ := hO.form
      have hfin : decide (0 < n) = B := by rw [HN.out, ← HB.out]; rfl
      go_wp2
      go_ret
      exact ⟨a, n, cap, rfl, by omega, hfin, below_step hb hz0 hb0⟩
set_option maxHeartbeats 2000000 in
theorem c_seOnQuartic (D A C : Int) (k : Nat) (hk : 1 ≤ k ∧ k ≤ 60) (hD : -91200 ≤ D ∧ D ≤ 91200) (hA : -91200 ≤ A ∧ A ≤ 91200) (hC : -91200 ≤ C ∧ C ≤ 91200) (w : World) :
    Calls Tryz.prog 70 #[.agg #[.int .i64 D, .int .i64 A, .int .i64 C], .int .i64 k] w (PtsP w (ptB D A C (k + 1))) := by
  have HI := Lib.hid (fun (m e : Nat) (hm : m ≤ 60) (he : e ≤ 60) => ten_in hD hA hC hm he)
  have HV := Lib.hid (fun (m e : Nat) (hm : m ≤ 60) (he : e ≤ 60) W => c_loValue D A C m e hD hA hC (by omega) (by omega) W)
  have HG := Lib.hid (fun (m e : Nat) (hm : m ≤ 60) (he : e ≤ 60) W => c_bgCommon m e (by omega) (by omega) W)
  have kQ := Blk.new w #[.int .i64 D, .int .i64 A, .int .i64 C] 43
  have hb0 : Below w.heap.size w (w.alloc (.cells #[.int .i64 D, .int .i64 A, .int .i64 C] 43)) := (Below.refl _ _).alloc (Nat.le_refl _) _
  have hz0 := hb0.size
  unfold PtsP
  generalize hB : ptB D A C (k + 1) = B
  have HB := Lib.hid hB
  clear hB
  go_enter Tryz.func70, Tryz.ntmps70
  go_upto_region 1 with (fail)
  generalize w.alloc _ = W at *
  have hqs := kQ.lt
  go_wp2
  go_loopw [5, 6] (fun o i wr => ∃ (m n : Nat), m ≤ k + 1 ∧ i = .int .i64 m ∧ OwnsN wr W.heap.size o n ∧ n ≤ 61 * m ∧ Hid (decide (0 < n) = anyB m fun m => anyB (k + 1) fun e => hitB D A C m e) ∧ Below W.heap.size W wr) (fun _ i _ => k + 1 - (intOf i).toNat)
  case atStart => exact ⟨0, 0, Nat.zero_le _, rfl, OwnsN.nil _ _, by omega, Lib.hid rfl, Below.refl _ _⟩
  case round =>
    obtain ⟨m, n, hm, rfl, hO, hn, HN, hb⟩ := hrel
    by_cases hlt : m < k + 1
    · have m0 : (m : Int) ≤ (k : Int) := by omega
      go_wp2
      go_loopw [5, 7] (fun o i wr => ∃ (e n : Nat), e ≤ k + 1 ∧ i = .int .i64 e ∧ OwnsN wr W.heap.size o n ∧ n ≤ 61 * m + e ∧ Hid (decide (0 < n) = ((anyB m fun m => anyB (k + 1) fun e => hitB D A C m e) || anyB e fun e => hitB D A C m e)) ∧ Below W.heap.size W wr) (fun _ i _ => k + 1 - (intOf i).toNat)
      case atStart => exact ⟨0, n, Nat.zero_le _, rfl, hO, by omega, Lib.hid (by rw [HN.out]; simp [anyB]), hb⟩
      case round =>
        clear hO hb hn HN
        obtain ⟨e, n, he, rfl, hO, hn, HN, hb⟩ := hrel
        by_cases hlt2 : e < k + 1
        · have HE : Hid (∀ b, hitB D A C m e = b → ∀ n', decide (0 < n') = (decide (0 < n) || b) → decide (0 < n') = ((anyB m fun m => anyB (k + 1) fun e => hitB D A C m e) || anyB (e + 1) fun e => hitB D A C m e)) := Lib.hid fun b hb n' h => by
            rw [h, HN.out, Bool.or_assoc]
            conv => rhs; rhs; rw [anyB]
            rw [hb]
          have HH : Hid (hitB D A C m e = (gcdI m e == 1 && sqB (qvV D A C m e))) := rfl
          have hv := HI.out m e (by omega) (by omega)
          have Hv := Lib.hid (HV.out m e (by omega) (by omega))
          have Hg := Lib.hid (HG.out m e (by omega) (by omega))
          clear HN
          have e0 : (e : Int) ≤ (k : Int) := by omega
          have q0 := (hb.cell (p := ⟨w.heap.size, 0, none⟩) hqs).trans (kQ.cell 0)
          have q1 := (hb.cell (p := ⟨w.heap.size, 1, none⟩) hqs).trans (kQ.cell 1)
          have q2 := (hb.cell (p := ⟨w.heap.size, 2, none⟩) hqs).trans (kQ.cell 2)
          simp only [List.getElem?_toArray, List.getElem?_cons_zero, List.getElem?_cons_succ] at q0 q1 q2
          generalize qvV D A C m e = val at *
          generalize gcdI m e = gg at *
          have hz := hb.size
          by_cases hg1 : gg = 1
          · subst hg1
            have HR := Lib.hid (fun W => c_seRootB val hv.2 hv.1 W)
            cases hs : sqB val
            all_goals
              have hf : hitB D A C m e = sqB val := by rw [HH.out]; rfl
              rw [hs] at hf HR
              go_wp2_with fail
              refine (Hg.out _).mono ?_
              rintro e1 w2 ⟨rfl, rfl⟩
              go_wp2_with fail
              refine (Hv.out _).mono ?_
              rintro e2 w3 ⟨rfl, hb3⟩
              have hO3 := hO.below hb3
              have hb4 := below_step hb3 hb.size hb
              have hz4 := hb4.size
              go_wp2_with fail
              refine (HR.out _).mono ?_
              rintro e3 w4 ⟨⟨r, rfl, hr, hrs⟩, rfl⟩
              simp only [decide_eq_true_eq, decide_eq_false_iff_not] at hrs
            · go_wp2
              go_roundw
              case rel => exact ⟨e + 1, n, by omega, by go_num, hO3, by omega, Lib.hid (HE.out _ hf n (by simp)), hb4⟩
              case measure => simp [intOf]; omega
            · go_wp2_with (at_builtin; refine wpList_app_row (x := (m : Int)) (y := (e : Int)) (z := r) rfl _ _ rfl W.heap.size _ n rfl hO3 rfl (by omega) hz4 ?_; intro v5 w5 hO5 hb5; have hB5 := hb4.trans hb5)
              go_wp2
              go_roundw
              case rel => exact ⟨e + 1, n + 1, by omega, by go_num, hO5, by omega, Lib.hid (HE.out _ hf (n + 1) (by simp)), hB5⟩
              case measure => simp [intOf]; omega
          · have hf : hitB D A C m e = false := by rw [HH.out]; simp [hg1]
            have hg2 : (gg != 1) = true := by simp [hg1]
            go_wp2_with fail
            refine (Hg.out _).mono ?_
            rintro e1 w2 ⟨rfl, rfl⟩
            go_wp2
            go_roundw
            case rel => exact ⟨e + 1, n, by omega, by go_num, hO, by omega, Lib.hid (HE.out _ hf n (by simp)), hb⟩
            case measure => simp [intOf]; omega
        · obtain rfl : e = k + 1 := by omega
          have HS : Hid (decide (0 < n) = anyB (m + 1) fun m => anyB (k + 1) fun e => hitB D A C m e) := Lib.hid (by rw [HN.out]; conv => rhs; rw [anyB])
          clear HN
          go_wp2
          go_roundw
          case rel => exact ⟨m + 1, n, by omega, by go_num, hO, by omega, HS, hb⟩
          case measure => simp [intOf]; omega
    · obtain rfl : m = k + 1 := by omega
      obtain ⟨a, cap, rfl⟩ := hO.form
      have hfin : decide (0 < n) = B := by rw [HN.out, ← HB.out]; rfl
      go_wp2
      go_ret
      exact ⟨a, n, cap, rfl, by omega, hfin, below_step hb hz0 hb0⟩
end Go.Proofs.YtbmcabphjfpkhaaGreat

/- PcT -/
namespace Go.Proofs.YtbmcabphjfpkhaaGreat
open Go.RowKit

theorem c_sameInts (v v' : Value) (xs : List Int) (hL : xs.length ≤ 100000000) (w : World) (h1 : RdI w v xs) (h2 : RdI w v' xs) :
    Calls Tryz.prog 12 #[v, v'] w fun e w' => e = .returned (.bool true) ∧ Below w.heap.size w w' := by
  obtain ⟨a, cap, rfl, hform⟩ := h1
  obtain ⟨a', cap', rfl, hform'⟩ := h2
  have HF := Lib.hid hform
  have HF' := Lib.hid hform'
  clear hform hform'
  go_enter Tryz.func12, Tryz.ntmps12
  go_wp2
  go_loopw [13] (fun i wr => ∃ k : Nat, k ≤ xs.length ∧ i = .int .i64 k ∧ Below w.heap.size w wr) (fun i _ => xs.length - (intOf i).toNat)
  case atStart => exact ⟨0, Nat.zero_le _, rfl, Below.refl _ _⟩
  case round =>
    obtain ⟨k, hk, rfl, hbl⟩ := hrel
    by_cases hlt : k < xs.length
    · obtain ⟨g, o, rfl, q1, hg⟩ := HF.out k hlt
      obtain ⟨g', o', rfl, r1, hg'⟩ := HF'.out k hlt
      have q2 := (hbl.cell (p := ⟨g, o + k, none⟩) hg).trans q1
      have r2 := (hbl.cell (p := ⟨g', o' + k, none⟩) hg').trans r1
      clear q1 r1
      generalize xs[k]?.getD 0 = y at q2 r2
      have i0 : (0 : Int) ≤ (k : Int) := by omega
      have i1 : (k : Int) < (xs.length : Int) := by omega
      go_wp2
      go_quiet (fail)
      go_wp2
      go_roundw
      case rel => exact ⟨k + 1, by omega, by go_num, below_drewN hbl _⟩
      case measure => simp [intOf]; omega
    · obtain rfl : k = xs.length := by omega
      go_wp2
      go_ret
      exact ⟨rfl, hbl⟩
theorem c_isQuartic (D A C : Int) (hD : -91200 ≤ D ∧ D ≤ 91200) (hA : -91200 ≤ A ∧ A ≤ 91200) (hC : -91200 ≤ C ∧ C ≤ 91200) (h1 : D ≠ 0) (h2 : C ≠ 0) (w : World) :
    Calls Tryz.prog 50 #[.agg #[.int .i64 D, .int .i64 A, .int .i64 C]] w fun e w' => e = .returned (.bool true) ∧ Below w.heap.size w w' := by
  have H := Lib.hid (fun (x : Int) (hx : -91200 ≤ x ∧ x ≤ 91200) W => (c_inside x (-100000) 100000 W).mono fun e w' (h : _ ∧ _) => (⟨h.1.trans (by rw [show inB x (-100000) 100000 = true by unfold inB; simp; omega]), h.2⟩ : e = .returned (.bool true) ∧ W = w'))
  have b1 : (D != 0) = true := by simp [h1]
  have b2 : (C != 0) = true := by simp [h2]
  go_enter Tryz.func50, Tryz.ntmps50
  go_wp2_with (go_at_call 28; refine (H.out _ (by assumption) _).mono ?_; rintro e w' ⟨rfl, rfl⟩)
  go_ret
  refine ⟨rfl, ?_⟩
  (repeat' (first | (with_reducible exact Below.refl _ _) | (with_reducible refine below_step (by assumption) ?_ ?_) | (with_reducible refine Below.alloc ?_ ?_ _) | (with_reducible refine Below.setCell ?_ ?_ _) | (with_reducible refine below_drewN ?_ _) | (with_reducible refine Below.drew ?_) | omega | (simp; omega) | (simp; done)))
end Go.Proofs.YtbmcabphjfpkhaaGreat

/- PcZ -/
namespace Go.Proofs.YtbmcabphjfpkhaaGreat
set_option linter.all false
open Go.RowKit

/-- has the quartic of a divisor a point within a bound -/
def fnB (A B : Int) (dual : Bool) (k : Nat) (d : Int) : Bool := ptB d (sdA A dual) ((sdB A B dual).tdiv d) (k + 1)
/-- the divisors that are found -/
def fnL (A B : Int) (dual : Bool) (k : Nat) : List Int := (sdv (sdB A B dual)).filter (fnB A B dual k)
theorem sd_div {A B : Int} (h : tgB A B = true) (dual : Bool) {d : Int} (hd : d ∈ sdv (sdB A B dual)) : d ≠ 0 ∧ (-91200 ≤ d ∧ d ≤ 91200) ∧ (-91200 ≤ sdA A dual ∧ sdA A dual ≤ 91200) ∧ (-91200 ≤ (sdB A B dual).tdiv d ∧ (sdB A B dual).tdiv d ≤ 91200) := by
  obtain ⟨h1, h2, h3⟩ := sd_facts h dual
  have h4 := (sdv_facts h3 h2).1 d hd
  have hq : ((sdB A B dual).tdiv d).natAbs ≤ (sdB A B dual).natAbs := by rw [Int.natAbs_tdiv]; exact Nat.div_le_self _ _
  exact ⟨h4.1, by omega, by omega, by omega⟩
theorem filt_next {f : Int → Bool} {S : List Int} {k : Nat} (hk : k < S.length) : (S.take (k + 1)).filter f = (S.take k).filter f ++ if f (S[k]?.getD 0) then [S[k]?.getD 0] else [] := by
  rw [take_next hk, List.filter_append, List.filter_cons, List.filter_nil]
set_option maxHeartbeats 2000000 in
theorem c_found (A B : Int) (dual : Bool) (h : tgB A B = true) (k : Nat) (hk : 1 ≤ k ∧ k ≤ 60) (w : World) :
    Calls Tryz.prog 41 #[.agg #[.int .i64 A, .int .i64 B], .bool dual, .int .i64 k] w fun e w' => ∃ v, e = .returned v ∧ OwnsI w' w.heap.size v (fnL A B dual k) ∧ Below w.heap.size w w' := by
  have HS := Lib.hid (fun W => c_descentDivisors A B dual h W)
  have HQ := Lib.hid (fun d (hd : d ∈ sdv (sdB A B dual)) W => c_descentQuartic A B d dual h (sd_div h dual hd).1 W)
  have HP := Lib.hid (fun d (hd : d ∈ sdv (sdB A B dual)) W => c_points d (sdA A dual) ((sdB A B dual).tdiv d) k hk (sd_div h dual hd).2.1 (sd_div h dual hd).2.2.1 (sd_div h dual hd).2.2.2 W)
  have hsf := sd_facts h dual
  have hsl := (sdv_facts hsf.2.2 hsf.2.1).2.1
  unfold fnL
  have HX : Hid (∀ d, fnB A B dual k d = ptB d (sdA A dual) ((sdB A B dual).tdiv d) (k + 1)) := Lib.hid fun d => rfl
  have kC := Blk.new w #[.int .i64 A, .int .i64 B] 38
  have hb0 : Below w.heap.size w (w.alloc (.cells #[.int .i64 A, .int .i64 B] 38)) := (Below.refl _ _).alloc (Nat.le_refl _) _
  have hz0 := hb0.size
  generalize sdv (sdB A B dual) = L at *
  clear hsf
  go_enter Tryz.func41, Tryz.ntmps41
  go_upto_region 1 with (fail)
  generalize w.alloc _ = W at *
  have kC0 : (W).cell? ⟨w.heap.size, 0, none⟩ = some (.int .i64 A) := kC.cell 0; have kC1 : (W).cell? ⟨w.heap.size, 1, none⟩ = some (.int .i64 B) := kC.cell 1; have kCl : w.heap.size < (W).heap.size := kC.lt
  go_wp2_with fail
  refine (HS.out _).mono ?_
  rintro e w1 ⟨v, rfl, hO, hb1⟩
  have kN := kC.next hb1
  have hb2 := below_step hb1 hz0 hb0
  clear hb1 hb0
  have HL := Lib.hid (fun (W2 : World) (hW : Below w1.heap.size w1 W2) => hO.rd.below hW)
  obtain ⟨a, cap, rfl, _⟩ := hO.form
  have hbs := kN.lt
  have hz1 := hb2.size
  go_wp2
  go_loopw [7, 14] (fun o i wr => ∃ (m : Nat), m ≤ L.length ∧ i = .int .i64 m ∧ OwnsI wr w1.heap.size o ((L.take m).filter (fnB A B dual k)) ∧ Below w1.heap.size w1 wr) (fun _ i _ => L.length - (intOf i).toNat)
  case atStart => exact ⟨0, Nat.zero_le _, rfl, OwnsI.nil _ _, Below.refl _ _⟩
  case round =>
    obtain ⟨m, hm, rfl, hO, hb⟩ := hrel
    by_cases hlt : m < L.length
    · obtain ⟨a2, cap3, e3, hq⟩ := HL.out _ hb
      obtain ⟨g2, o2, rfl, q2, _⟩ := hq m hlt
      injection e3 with e4 e5 e6
      subst e4
      clear hq e5 e6
      have q0 := (hb.cell (p := ⟨w.heap.size, 0, none⟩) hbs).trans (kN.cell 0)
      have q1 := (hb.cell (p := ⟨w.heap.size, 1, none⟩) hbs).trans (kN.cell 1)
      simp only [List.getElem?_toArray, List.getElem?_cons_zero, List.getElem?_cons_succ] at q0 q1
      have hN := filt_next (f := fnB A B dual k) hlt
      have hmem : L[m]?.getD 0 ∈ L := by rw [show L[m]?.getD 0 = L[m] by rw [List.getElem?_eq_getElem hlt]; rfl]; exact List.getElem_mem hlt
      have H1 := Lib.hid (HQ.out _ hmem)
      have H2 := Lib.hid (HP.out _ hmem)
      have hX := HX.out (L[m]?.getD 0)
      have hml : ((L.take m).filter (fnB A B dual k)).length < 1000000000000 := by
        have := List.length_filter_le (fnB A B dual k) (L.take m)
        rw [List.length_take] at this
        omega
      unfold quV at H1
      generalize L[m]?.getD 0 = d at *
      generalize sdA A dual = x at *
      generalize (sdB A B dual).tdiv d = y at *
      generalize (L.take m).filter (fnB A B dual k) = M at *
      have i0 : (m : Int) < (L.length : Int) := by omega
      have HPT := Lib.hid hX
      have HNX := Lib.hid hN
      clear hX hN hmem
      have hz := hb.size
      go_wp2_with fail
      refine (H1.out _).mono ?_
      rintro e w2 ⟨rfl, hb2'⟩
      have hB2 := below_step hb2' hb.size hb
      have hO2 := hO.below hb2'
      have hz2 := hB2.size
      go_wp2_with fail
      refine (H2.out _).mono ?_
      rintro e w3 ⟨ap, np, cp, rfl, hn1, hn2, hb3⟩
      have hB3 := below_step hb3 hz2 hB2
      have hO3 := hO2.below hb3
      have hz3 := hB3.size
      rw [← HPT.out] at hn2
      cases hf : fnB A B dual k d
      · rw [hf] at hn2
        simp only [decide_eq_false_iff_not] at hn2
        have HF : Hid ((L.take (m + 1)).filter (fnB A B dual k) = M) := Lib.hid (by rw [HNX.out, hf]; simp)
        clear HNX
        go_wp2
        go_roundw
        case rel => exact ⟨m + 1, by omega, by go_num, by rw [HF.out]; exact hO3, hB3⟩
        case measure => simp [intOf]; omega
      · rw [hf] at hn2
        simp only [decide_eq_true_eq] at hn2
        have HF : Hid ((L.take (m + 1)).filter (fnB A B dual k) = M ++ [d]) := Lib.hid (by rw [HNX.out, hf]; simp)
        clear HNX
        go_wp2_with (at_builtin; refine wpList_app_int (y := d) rfl _ _ rfl w1.heap.size _ M rfl hO3 rfl hml hz3 ?_; intro v4 w4 hO4 hb4 hg4; have hB4 := hB3.trans hb4)
        go_wp2
        go_roundw
        case rel => exact ⟨m + 1, by omega, by go_num, by rw [HF.out]; exact hO4, hB4⟩
        case measure => simp [intOf]; omega
    · obtain rfl : m = L.length := by omega
      rw [List.take_length] at hO
      go_wp2
      go_ret
      exact ⟨_, rfl, hO.le hz1, below_step hb hz1 hb2⟩
set_option maxHeartbeats 2000000 in
theorem c_dsFound (A B : Int) (dual : Bool) (h : tgB A B = true) (k : Nat) (hk : 1 ≤ k ∧ k ≤ 60) (w : World) :
    Calls Tryz.prog 44 #[.agg #[.int .i64 A, .int .i64 B], .bool dual, .int .i64 k] w fun e w' => ∃ v, e = .returned v ∧ OwnsI w' w.heap.size v (fnL A B dual k) ∧ Below w.heap.size w w' := by
  have HS := Lib.hid (fun W => c_dsDivisors A B dual h W)
  have HQ := Lib.hid (fun d (hd : d ∈ sdv (sdB A B dual)) W => c_dsQuartic A B d dual h (sd_div h dual hd).1 W)
  have HP := Lib.hid (fun d (hd : d ∈ sdv (sdB A B dual)) W => c_seOnQuartic d (sdA A dual) ((sdB A B dual).tdiv d) k hk (sd_div h dual hd).2.1 (sd_div h dual hd).2.2.1 (sd_div h dual hd).2.2.2 W)
  have hsf := sd_facts h dual
  have hsl := (sdv_facts hsf.2.2 hsf.2.1).2.1
  unfold fnL
  have HX : Hid (∀ d, fnB A B dual k d = ptB d (sdA A dual) ((sdB A B dual).tdiv d) (k + 1)) := Lib.hid fun d => rfl
  have kC := Blk.new w #[.int .i64 A, .int .i64 B] 38
  have hb0 : Below w.heap.size w (w.alloc (.cells #[.int .i64 A, .int .i64 B] 38)) := (Below.refl _ _).alloc (Nat.le_refl _) _
  have hz0 := hb0.size
  generalize sdv (sdB A B dual) = L at *
  clear hsf
  go_enter Tryz.func44, Tryz.ntmps44
  go_upto_region 1 with (fail)
  generalize w.alloc _ = W at *
  have kC0 : (W).cell? ⟨w.heap.size, 0, none⟩ = some (.int .i64 A) := kC.cell 0; have kC1 : (W).cell? ⟨w.heap.size, 1, none⟩ = some (.int .i64 B) := kC.cell 1; have kCl : w.heap.size < (W).heap.size := kC.lt
  go_wp2_with fail
  refine (HS.out _).mono ?_
  rintro e w1 ⟨v, rfl, hO, hb1⟩
  have kN := kC.next hb1
  have hb2 := below_step hb1 hz0 hb0
  clear hb1 hb0
  have HL := Lib.hid (fun (W2 : World) (hW : Below w1.heap.size w1 W2) => hO.rd.below hW)
  obtain ⟨a, cap, rfl, _⟩ := hO.form
  have hbs := kN.lt
  have hz1 := hb2.size
  go_wp2
  go_loopw [7, 14] (fun o i wr => ∃ (m : Nat), m ≤ L.length ∧ i = .int .i64 m ∧ OwnsI wr w1.heap.size o ((L.take m).filter (fnB A B dual k)) ∧ Below w1.heap.size w1 wr) (fun _ i _ => L.length - (intOf i).toNat)
  case atStart => exact ⟨0, Nat.zero_le _, rfl, OwnsI.nil _ _, Below.refl _ _⟩
  case round =>
    obtain ⟨m, hm, rfl, hO, hb⟩ := hrel
    by_cases hlt : m < L.length
    · obtain ⟨a2, cap3, e3, hq⟩ := HL.out _ hb
      obtain ⟨g2, o2, rfl, q2, _⟩ := hq m hlt
      injection e3 with e4 e5 e6
      subst e4
      clear hq e5 e6
      have q0 := (hb.cell (p := ⟨w.heap.size, 0, none⟩) hbs).trans (kN.cell 0)
      have q1 := (hb.cell (p := ⟨w.heap.size, 1, none⟩) hbs).trans (kN.cell 1)
      simp only [List.getElem?_toArray, List.getElem?_cons_zero, List.getElem?_cons_succ] at q0 q1
      have hN := filt_next (f := fnB A B dual k) hlt
      have hmem : L[m]?.getD 0 ∈ L := by rw [show L[m]?.getD 0 = L[m] by rw [List.getElem?_eq_getElem hlt]; rfl]; exact List.getElem_mem hlt
      have H1 := Lib.hid (HQ.out _ hmem)
      have H2 := Lib.hid (HP.out _ hmem)
      have hX := HX.out (L[m]?.getD 0)
      have hml : ((L.take m).filter (fnB A B dual k)).length < 1000000000000 := by
        have := List.length_filter_le (fnB A B dual k) (L.take m)
        rw [List.length_take] at this
        omega
      unfold quV at H1
      generalize L[m]?.getD 0 = d at *
      generalize sdA A dual = x at *
      generalize (sdB A B dual).tdiv d = y at *
      generalize (L.take m).filter (fnB A B dual k) = M at *
      have i0 : (m : Int) < (L.length : Int) := by omega
      have HPT := Lib.hid hX
      have HNX := Lib.hid hN
      clear hX hN hmem
      have hz := hb.size
      go_wp2_with fail
      refine (H1.out _).mono ?_
      rintro e w2 ⟨rfl, hb2'⟩
      have hB2 := below_step hb2' hb.size hb
      have hO2 := hO.below hb2'
      have hz2 := hB2.size
      go_wp2_with fail
      refine (H2.out _).mono ?_
      rintro e w3 ⟨ap, np, cp, rfl, hn1, hn2, hb3⟩
      have hB3 := below_step hb3 hz2 hB2
      have hO3 := hO2.below hb3
      have hz3 := hB3.size
      rw [← HPT.out] at hn2
      cases hf : fnB A B dual k d
      · rw [hf] at hn2
        simp only [decide_eq_false_iff_not] at hn2
        have HF : Hid ((L.take (m + 1)).filter (fnB A B dual k) = M) := Lib.hid (by rw [HNX.out, hf]; simp)
        clear HNX
        go_wp2
        go_roundw
        case rel => exact ⟨m + 1, by omega, by go_num, by rw [HF.out]; exact hO3, hB3⟩
        case measure => simp [intOf]; omega
      · rw [hf] at hn2
        simp only [decide_eq_true_eq] at hn2
        have HF : Hid ((L.take (m + 1)).filter (fnB A B dual k) = M ++ [d]) := Lib.hid (by rw [HNX.out, hf]; simp)
        clear HNX
        go_wp2_with (at_builtin; refine wpList_app_int (y := d) rfl _ _ rfl w1.heap.size _ M rfl hO3 rfl hml hz3 ?_; intro v4 w4 hO4 hb4 hg4; have hB4 := hB3.trans hb4)
        go_wp2
        go_roundw
        case rel => exact ⟨m + 1, by omega, by go_num, by rw [HF.out]; exact hO4, hB4⟩
        case measure => simp [intOf]; omega
    · obtain rfl : m = L.length := by omega
      rw [List.take_length] at hO
      go_wp2
      go_ret
      exact ⟨_, rfl, hO.le hz1, below_step hb hz1 hb2⟩
/-- are found divisors asked for, and what is answered -/
def fdB (A B n : Int) : Bool := tgB A B && inB n 1 60
def fdL (A B : Int) (dual : Bool) (n : Int) : List Int := if fdB A B n then fnL A B dual n.toNat else []
theorem fdL_yes {A B n : Int} {dual : Bool} (h : (tgB A B && inB n 1 60) = true) : fdL A B dual n = fnL A B dual n.toNat := by unfold fdL fdB; rw [if_pos h]
theorem fdL_no {A B n : Int} {dual : Bool} (h : (tgB A B && inB n 1 60) = false) : fdL A B dual n = [] := by unfold fdL fdB; rw [if_neg (by simp [h])]
set_option maxHeartbeats 1000000 in
theorem c_iFoundDivisors (A B n : Int) (dual : Bool) (w : World) :
    Calls Tryz.prog 18 #[.agg #[.int .i64 A, .int .i64 B], .bool dual, .int .i64 n] w (IntsPost w (fdL A B dual n) (fdB A B n)) := by
  have HT := Lib.hid (fun W => c_isTwoCurve A B W)
  have kC := Blk.new w #[.int .i64 A, .int .i64 B] 38
  have hb0 : Below w.heap.size w (w.alloc (.cells #[.int .i64 A, .int .i64 B] 38)) := (Below.refl _ _).alloc (Nat.le_refl _) _
  have hz0 := hb0.size
  have HX := Lib.hid (@fdL_yes A B n dual)
  have HF := Lib.hid (fun (h : tgB A B = true) (hn : 1 ≤ n ∧ n ≤ 60) W => c_found A B dual h n.toNat (by omega) W)
  have HY := Lib.hid (@fdL_no A B n dual)
  unfold IntsPost
  generalize fdL A B dual n = L at *
  unfold fdB at *
  cases ht : tgB A B
  · have hL := HY.out (by rw [ht]; rfl)
    subst hL
    rw [ht] at HT
    go_enter Tryz.func18, Tryz.ntmps18
    go_upto_region 1 with (fail)
    generalize w.alloc _ = W at *
    have kC0 : (W).cell? ⟨w.heap.size, 0, none⟩ = some (.int .i64 A) := kC.cell 0; have kC1 : (W).cell? ⟨w.heap.size, 1, none⟩ = some (.int .i64 B) := kC.cell 1; have kCl : w.heap.size < (W).heap.size := kC.lt
    go_wp2_with fail
    refine (HT.out _).mono ?_
    rintro e w1 ⟨rfl, hb1⟩
    have hb2 := below_step hb1 hz0 hb0
    go_wp2
    go_ret2
    exact ⟨_, rfl, OwnsI.nil _ _, hb2⟩
  · rw [ht] at HT
    cases hn : inB n 1 60
    · have hL := HY.out (by rw [ht, hn]; rfl)
      subst hL
      go_enter Tryz.func18, Tryz.ntmps18
      go_upto_region 1 with (fail)
      generalize w.alloc _ = W at *
      have kC0 : (W).cell? ⟨w.heap.size, 0, none⟩ = some (.int .i64 A) := kC.cell 0; have kC1 : (W).cell? ⟨w.heap.size, 1, none⟩ = some (.int .i64 B) := kC.cell 1; have kCl : w.heap.size < (W).heap.size := kC.lt
      go_wp2_with fail
      refine (HT.out _).mono ?_
      rintro e w1 ⟨rfl, hb1⟩
      have hb2 := below_step hb1 hz0 hb0
      go_wp2_with ((go_at_call 28; refine (c_inside _ _ _ _).mono ?_; rintro e w' ⟨rfl, rfl⟩))
      go_ret2
      refine ⟨_, rfl, OwnsI.nil _ _, ?_⟩
      (repeat' (first | (with_reducible exact Below.refl _ _) | (with_reducible refine below_step (by assumption) ?_ ?_) | (with_reducible refine Below.alloc ?_ ?_ _) | (with_reducible refine Below.setCell ?_ ?_ _) | (with_reducible refine below_drewN ?_ _) | (with_reducible refine Below.drew ?_) | omega | (simp; omega) | (simp; done)))
    · have hnb := inB_true hn
      have hL := HX.out (by rw [ht, hn]; rfl)
      have hF := HF.out ht hnb
      rw [← hL] at hF
      have HFF := Lib.hid hF
      have hnn : ((n.toNat : Nat) : Int) = n := by omega
      rw [hnn] at HFF
      clear hL hF HF HX HY hnn
      go_enter Tryz.func18, Tryz.ntmps18
      go_upto_region 1 with (fail)
      generalize w.alloc _ = W at *
      have kC0 : (W).cell? ⟨w.heap.size, 0, none⟩ = some (.int .i64 A) := kC.cell 0; have kC1 : (W).cell? ⟨w.heap.size, 1, none⟩ = some (.int .i64 B) := kC.cell 1; have kCl : w.heap.size < (W).heap.size := kC.lt
      go_wp2_with fail
      refine (HT.out _).mono ?_
      rintro e w1 ⟨rfl, hb1⟩
      have hb2 := below_step hb1 hz0 hb0
      have c0 := (hb1.cell (p := ⟨w.heap.size, 0, none⟩) kCl).trans kC0
      have c1 := (hb1.cell (p := ⟨w.heap.size, 1, none⟩) kCl).trans kC1
      go_wp2_with ((go_at_call 28; refine (c_inside _ _ _ _).mono ?_; rintro e w' ⟨rfl, rfl⟩))
      have hz2 := hb2.size
      go_wp2_with fail
      refine (HFF.out _).mono ?_
      rintro e w2 ⟨v, rfl, hO, hb3⟩
      have hb4 := below_step hb3 hz2 hb2
      go_wp2
      go_ret2
      exact ⟨_, rfl, hO.le hz2, hb4⟩
theorem c_dsMost (n : Int) (w : World) : Calls Tryz.prog 43 #[.int .i64 n] w fun e w' => e = .returned (.bool (inB n 1 60)) ∧ w = w' := by
  go_enter Tryz.func43, Tryz.ntmps43
  go_wp2_with ((go_at_call 53; refine (c_l1In _ _ _ _).mono ?_; rintro e w' ⟨rfl, rfl⟩))
  go_ret
  exact ⟨rfl, rfl⟩
set_option maxHeartbeats 1000000 in
theorem c_sFoundDivisors (A B n : Int) (dual : Bool) (w : World) :
    Calls Tryz.prog 19 #[.agg #[.int .i64 A, .int .i64 B], .bool dual, .int .i64 n] w (IntsPost w (fdL A B dual n) (fdB A B n)) := by
  have HT := Lib.hid (fun W => c_tcGood A B W)
  have kC := Blk.new w #[.int .i64 A, .int .i64 B] 38
  have hb0 : Below w.heap.size w (w.alloc (.cells #[.int .i64 A, .int .i64 B] 38)) := (Below.refl _ _).alloc (Nat.le_refl _) _
  have hz0 := hb0.size
  have HX := Lib.hid (@fdL_yes A B n dual)
  have HF := Lib.hid (fun (h : tgB A B = true) (hn : 1 ≤ n ∧ n ≤ 60) W => c_dsFound A B dual h n.toNat (by omega) W)
  have HY := Lib.hid (@fdL_no A B n dual)
  unfold IntsPost
  generalize fdL A B dual n = L at *
  unfold fdB at *
  cases ht : tgB A B
  · have hL := HY.out (by rw [ht]; rfl)
    subst hL
    rw [ht] at HT
    go_enter Tryz.func19, Tryz.ntmps19
    go_upto_region 1 with (fail)
    generalize w.alloc _ = W at *
    have kC0 : (W).cell? ⟨w.heap.size, 0, none⟩ = some (.int .i64 A) := kC.cell 0; have kC1 : (W).cell? ⟨w.heap.size, 1, none⟩ = some (.int .i64 B) := kC.cell 1; have kCl : w.heap.size < (W).heap.size := kC.lt
    go_wp2_with fail
    refine (HT.out _).mono ?_
    rintro e w1 ⟨rfl, hb1⟩
    have hb2 := below_step hb1 hz0 hb0
    go_wp2
    go_ret2
    exact ⟨_, rfl, OwnsI.nil _ _, hb2⟩
  · rw [ht] at HT
    cases hn : inB n 1 60
    · have hL := HY.out (by rw [ht, hn]; rfl)
      subst hL
      go_enter Tryz.func19, Tryz.ntmps19
      go_upto_region 1 with (fail)
      generalize w.alloc _ = W at *
      have kC0 : (W).cell? ⟨w.heap.size, 0, none⟩ = some (.int .i64 A) := kC.cell 0; have kC1 : (W).cell? ⟨w.heap.size, 1, none⟩ = some (.int .i64 B) := kC.cell 1; have kCl : w.heap.size < (W).heap.size := kC.lt
      go_wp2_with fail
      refine (HT.out _).mono ?_
      rintro e w1 ⟨rfl, hb1⟩
      have hb2 := below_step hb1 hz0 hb0
      go_wp2_with ((go_at_call 43; refine (c_dsMost _ _).mono ?_; rintro e w' ⟨rfl, rfl⟩))
      go_ret2
      refine ⟨_, rfl, OwnsI.nil _ _, ?_⟩
      (repeat' (first | (with_reducible exact Below.refl _ _) | (with_reducible refine below_step (by assumption) ?_ ?_) | (with_reducible refine Below.alloc ?_ ?_ _) | (with_reducible refine Below.setCell ?_ ?_ _) | (with_reducible refine below_drewN ?_ _) | (with_reducible refine Below.drew ?_) | omega | (simp; omega) | (simp; done)))
    · have hnb := inB_true hn
      have hL := HX.out (by rw [ht, hn]; rfl)
      have hF := HF.out ht hnb
      rw [← hL] at hF
      have HFF := Lib.hid hF
      have hnn : ((n.toNat : Nat) : Int) = n := by omega
      rw [hnn] at HFF
      clear hL hF HF HX HY hnn
      go_enter Tryz.func19, Tryz.ntmps19
      go_upto_region 1 with (fail)
      generalize w.alloc _ = W at *
      have kC0 : (W).cell? ⟨w.heap.size, 0, none⟩ = some (.int .i64 A) := kC.cell 0; have kC1 : (W).cell? ⟨w.heap.size, 1, none⟩ = some (.int .i64 B) := kC.cell 1; have kCl : w.heap.size < (W).heap.size := kC.lt
      go_wp2_with fail
      refine (HT.out _).mono ?_
      rintro e w1 ⟨rfl, hb1⟩
      have hb2 := below_step hb1 hz0 hb0
      have c0 := (hb1.cell (p := ⟨w.heap.size, 0, none⟩) kCl).trans kC0
      have c1 := (hb1.cell (p := ⟨w.heap.size, 1, none⟩) kCl).trans kC1
      go_wp2_with ((go_at_call 43; refine (c_dsMost _ _).mono ?_; rintro e w' ⟨rfl, rfl⟩))
      have hz2 := hb2.size
      go_wp2_with fail
      refine (HFF.out _).mono ?_
      rintro e w2 ⟨v, rfl, hO, hb3⟩
      have hb4 := below_step hb3 hz2 hb2
      go_wp2
      go_ret2
      exact ⟨_, rfl, hO.le hz2, hb4⟩
end Go.Proofs.YtbmcabphjfpkhaaGreat

/- PdA -/
namespace Go.Proofs.YtbmcabphjfpkhaaGreat
set_option linter.all false
open Go.RowKit

/-- the quartic of a divisor, told -/
def DqP (A B : Int) (dual : Bool) (d : Int) (w : World) (e : Ending) (w' : World) : Prop := e = .returned (.tuple #[quV A B dual d, .bool true]) ∧ Below w.heap.size w w'
set_option maxHeartbeats 1000000 in
theorem c_iDescentQuartic (A B d : Int) (dual : Bool) (h : tgB A B = true) (hd : d ∈ sdv (sdB A B dual)) (w : World) :
    Calls Tryz.prog 20 #[.agg #[.int .i64 A, .int .i64 B], .bool dual, .int .i64 d] w (DqP A B dual d w) := by
  have hsf := sd_facts h dual
  have hsl := (sdv_facts hsf.2.2 hsf.2.1).2.1
  have HT := Lib.hid (fun W => c_isTwoCurve A B W)
  rw [h] at HT
  have HV := Lib.hid (fun W => c_descentDivisors A B dual h W)
  have HQ := Lib.hid (fun W => c_descentQuartic A B d dual h (sd_div h dual hd).1 W)
  have HC := Lib.hid (fun v (W : World) (hr : RdI W v (sdv (sdB A B dual))) => c_containsI (sdv (sdB A B dual)) d v (by omega) W hr)
  rw [(has_mem d _).2 hd] at HC
  unfold DqP
  unfold quV at HQ ⊢
  generalize sdA A dual = a at *
  generalize (sdB A B dual).tdiv d = b at *
  generalize sdv (sdB A B dual) = L at *
  clear hd hsf
  have kC := (Blk.new w #[.int .i64 A, .int .i64 B] 38).alloc (.cells #[.int .i64 0, .int .i64 0, .int .i64 0] 43)
  have kR := Blk.new (w.alloc (.cells #[.int .i64 A, .int .i64 B] 38)) #[.int .i64 0, .int .i64 0, .int .i64 0] 43
  have hb0 : Below w.heap.size w ((w.alloc (.cells #[.int .i64 A, .int .i64 B] 38)).alloc (.cells #[.int .i64 0, .int .i64 0, .int .i64 0] 43)) := ((Below.refl _ _).alloc (Nat.le_refl _) _).alloc (by simp) _
  simp only [World.size_alloc] at kR
  have hz0 := hb0.size
  go_enter Tryz.func20, Tryz.ntmps20
  go_upto_region 1 with (fail)
  generalize (w.alloc _).alloc _ = W at *
  generalize hr0 : w.heap.size + 1 = rR at *
  have hlt : w.heap.size < rR := by omega
  clear hr0
  have kC0 : (W).cell? ⟨w.heap.size, 0, none⟩ = some (.int .i64 A) := kC.cell 0; have kC1 : (W).cell? ⟨w.heap.size, 1, none⟩ = some (.int .i64 B) := kC.cell 1; have kCl : w.heap.size < (W).heap.size := kC.lt
  have hrs := kR.lt
  go_wp2_with fail
  refine (HT.out _).mono ?_
  rintro e w1 ⟨rfl, hb1⟩
  have kR1 := kR.next hb1
  have hB1 := below_step hb1 hz0 hb0
  have c0 := (hb1.cell (p := ⟨w.heap.size, 0, none⟩) kCl).trans kC0
  have c1 := (hb1.cell (p := ⟨w.heap.size, 1, none⟩) kCl).trans kC1
  have hl1 := Nat.lt_of_lt_of_le kCl hb1.size
  have hz1 := hB1.size
  go_wp2_with fail
  refine (HV.out _).mono ?_
  rintro e w2 ⟨v, rfl, hO, hb2⟩
  have kR2 := kR1.next hb2
  have hB2 := below_step hb2 hz1 hB1
  have c2 := (hb2.cell (p := ⟨w.heap.size, 0, none⟩) hl1).trans c0
  have c3 := (hb2.cell (p := ⟨w.heap.size, 1, none⟩) hl1).trans c1
  have hl2 := Nat.lt_of_lt_of_le hl1 hb2.size
  clear c0 c1
  go_wp2_with fail
  refine (HC.out _ _ hO.rd).mono ?_
  rintro e w3 ⟨rfl, kd, rfl⟩
  have kR3 : Blk rR #[.int .i64 0, .int .i64 0, .int .i64 0] 43 (w2.drewN kd) := kR2
  have hB3 := below_drewN hB2 kd
  have c4 : (w2.drewN kd).cell? ⟨w.heap.size, 0, none⟩ = some (.int .i64 A) := c2
  have c5 : (w2.drewN kd).cell? ⟨w.heap.size, 1, none⟩ = some (.int .i64 B) := c3
  generalize w2.drewN kd = w3 at *
  have hz3 := hB3.size
  go_wp2_with fail
  refine (HQ.out _).mono ?_
  rintro e w8 ⟨rfl, hb8⟩
  have kR8 := kR3.next hb8
  have hB8 := below_step hb8 hz3 hB3
  have kR80 : (w8).cell? ⟨rR, 0, none⟩ = some (.int .i64 0) := kR8.cell 0; have kR81 : (w8).cell? ⟨rR, 1, none⟩ = some (.int .i64 0) := kR8.cell 1; have kR82 : (w8).cell? ⟨rR, 2, none⟩ = some (.int .i64 0) := kR8.cell 2; have kR8f0 : (w8).frozen? ⟨rR, 0, none⟩ = false := kR8.frozen 0; have kR8f1 : (w8).frozen? ⟨rR, 1, none⟩ = false := kR8.frozen 1; have kR8f2 : (w8).frozen? ⟨rR, 2, none⟩ = false := kR8.frozen 2; have kR8l : rR < (w8).heap.size := kR8.lt
  have k9 := ((kR8.set 0 (.int .i64 d)).set 1 (.int .i64 a)).set 2 (.int .i64 b)
  have hB9 := ((hB8.setCell (p := ⟨rR, 0, none⟩) (Nat.le_of_lt hlt) (.int .i64 d)).setCell (p := ⟨rR, 1, none⟩) (Nat.le_of_lt hlt) (.int .i64 a)).setCell (p := ⟨rR, 2, none⟩) (Nat.le_of_lt hlt) (.int .i64 b)
  go_wp2
  generalize (World.setCell (World.setCell (World.setCell _ _ _) _ _) _ _) = w9 at k9 hB9 ⊢
  have q0 : w9.cell? ⟨rR, 0, none⟩ = some (.int .i64 d) := k9.cell 0
  have q1 : w9.cell? ⟨rR, 1, none⟩ = some (.int .i64 a) := k9.cell 1
  have q2 : w9.cell? ⟨rR, 2, none⟩ = some (.int .i64 b) := k9.cell 2
  refine bodyPost_ret (v := .tuple #[.agg #[.int .i64 d, .int .i64 a, .int .i64 b], .bool true]) (by simp [results, Tryz.results20, go_sem, q0, q1, q2]) rfl ?_
  exact ⟨rfl, hB9⟩
set_option maxHeartbeats 1000000 in
theorem c_dsAsked (A B d : Int) (dual : Bool) (h : tgB A B = true) (hd : d ∈ sdv (sdB A B dual)) (w : World) :
    Calls Tryz.prog 48 #[.agg #[.int .i64 A, .int .i64 B], .bool dual, .int .i64 d] w fun e w' => e = .returned (.bool true) ∧ Below w.heap.size w w' := by
  have hsf := sd_facts h dual
  have hsl := (sdv_facts hsf.2.2 hsf.2.1).2.1
  have HT := Lib.hid (fun W => c_tcGood A B W)
  rw [h] at HT
  have HV := Lib.hid (fun W => c_dsDivisors A B dual h W)
  have HC := Lib.hid (fun v (W : World) (hr : RdI W v (sdv (sdB A B dual))) => c_l1Has (sdv (sdB A B dual)) d v (by omega) W hr)
  rw [(has_mem d _).2 hd] at HC
  generalize sdv (sdB A B dual) = L at *
  clear hd hsf
  have kC := Blk.new w #[.int .i64 A, .int .i64 B] 38
  have hb0 : Below w.heap.size w (w.alloc (.cells #[.int .i64 A, .int .i64 B] 38)) := (Below.refl _ _).alloc (Nat.le_refl _) _
  have hz0 := hb0.size
  go_enter Tryz.func48, Tryz.ntmps48
  go_upto_region 1 with (fail)
  generalize w.alloc _ = W at *
  have kC0 : (W).cell? ⟨w.heap.size, 0, none⟩ = some (.int .i64 A) := kC.cell 0; have kC1 : (W).cell? ⟨w.heap.size, 1, none⟩ = some (.int .i64 B) := kC.cell 1; have kCl : w.heap.size < (W).heap.size := kC.lt
  go_wp2_with fail
  refine (HT.out _).mono ?_
  rintro e w1 ⟨rfl, hb1⟩
  have hB1 := below_step hb1 hz0 hb0
  have c0 := (hb1.cell (p := ⟨w.heap.size, 0, none⟩) kCl).trans kC0
  have c1 := (hb1.cell (p := ⟨w.heap.size, 1, none⟩) kCl).trans kC1
  have hz1 := hB1.size
  go_wp2_with fail
  refine (HV.out _).mono ?_
  rintro e w2 ⟨v, rfl, hO, hb2⟩
  have hB2 := below_step hb2 hz1 hB1
  go_wp2_with fail
  refine (HC.out _ _ hO.rd).mono ?_
  rintro e w3 ⟨rfl, rfl⟩
  go_wp2
  go_ret
  exact ⟨rfl, hB2⟩
set_option maxHeartbeats 1000000 in
theorem c_sDescentQuartic (A B d : Int) (dual : Bool) (h : tgB A B = true) (hd : d ∈ sdv (sdB A B dual)) (w : World) :
    Calls Tryz.prog 21 #[.agg #[.int .i64 A, .int .i64 B], .bool dual, .int .i64 d] w (DqP A B dual d w) := by
  have HT := Lib.hid (fun W => c_dsAsked A B d dual h hd W)
  have HQ := Lib.hid (fun W => c_dsQuartic A B d dual h (sd_div h dual hd).1 W)
  unfold DqP
  unfold quV at HQ ⊢
  generalize sdA A dual = a at *
  generalize (sdB A B dual).tdiv d = b at *
  clear hd
  have kC := (Blk.new w #[.int .i64 A, .int .i64 B] 38).alloc (.cells #[.int .i64 0, .int .i64 0, .int .i64 0] 43)
  have kR := Blk.new (w.alloc (.cells #[.int .i64 A, .int .i64 B] 38)) #[.int .i64 0, .int .i64 0, .int .i64 0] 43
  have hb0 : Below w.heap.size w ((w.alloc (.cells #[.int .i64 A, .int .i64 B] 38)).alloc (.cells #[.int .i64 0, .int .i64 0, .int .i64 0] 43)) := ((Below.refl _ _).alloc (Nat.le_refl _) _).alloc (by simp) _
  simp only [World.size_alloc] at kR
  have hz0 := hb0.size
  go_enter Tryz.func21, Tryz.ntmps21
  go_upto_region 1 with (fail)
  generalize (w.alloc _).alloc _ = W at *
  generalize hr0 : w.heap.size + 1 = rR at *
  have hlt : w.heap.size < rR := by omega
  clear hr0
  have kC0 : (W).cell? ⟨w.heap.size, 0, none⟩ = some (.int .i64 A) := kC.cell 0; have kC1 : (W).cell? ⟨w.heap.size, 1, none⟩ = some (.int .i64 B) := kC.cell 1; have kCl : w.heap.size < (W).heap.size := kC.lt
  have hrs := kR.lt
  go_wp2_with fail
  refine (HT.out _).mono ?_
  rintro e w1 ⟨rfl, hb1⟩
  have kR1 := kR.next hb1
  have hB1 := below_step hb1 hz0 hb0
  have c0 := (hb1.cell (p := ⟨w.heap.size, 0, none⟩) kCl).trans kC0
  have c1 := (hb1.cell (p := ⟨w.heap.size, 1, none⟩) kCl).trans kC1
  have hz1 := hB1.size
  go_wp2_with fail
  refine (HQ.out _).mono ?_
  rintro e w8 ⟨rfl, hb8⟩
  have kR8 := kR1.next hb8
  have hB8 := below_step hb8 hz1 hB1
  have kR80 : (w8).cell? ⟨rR, 0, none⟩ = some (.int .i64 0) := kR8.cell 0; have kR81 : (w8).cell? ⟨rR, 1, none⟩ = some (.int .i64 0) := kR8.cell 1; have kR82 : (w8).cell? ⟨rR, 2, none⟩ = some (.int .i64 0) := kR8.cell 2; have kR8f0 : (w8).frozen? ⟨rR, 0, none⟩ = false := kR8.frozen 0; have kR8f1 : (w8).frozen? ⟨rR, 1, none⟩ = false := kR8.frozen 1; have kR8f2 : (w8).frozen? ⟨rR, 2, none⟩ = false := kR8.frozen 2; have kR8l : rR < (w8).heap.size := kR8.lt
  have k9 := ((kR8.set 0 (.int .i64 d)).set 1 (.int .i64 a)).set 2 (.int .i64 b)
  have hB9 := ((hB8.setCell (p := ⟨rR, 0, none⟩) (Nat.le_of_lt hlt) (.int .i64 d)).setCell (p := ⟨rR, 1, none⟩) (Nat.le_of_lt hlt) (.int .i64 a)).setCell (p := ⟨rR, 2, none⟩) (Nat.le_of_lt hlt) (.int .i64 b)
  go_wp2
  generalize (World.setCell (World.setCell (World.setCell _ _ _) _ _) _ _) = w9 at k9 hB9 ⊢
  have q0 : w9.cell? ⟨rR, 0, none⟩ = some (.int .i64 d) := k9.cell 0
  have q1 : w9.cell? ⟨rR, 1, none⟩ = some (.int .i64 a) := k9.cell 1
  have q2 : w9.cell? ⟨rR, 2, none⟩ = some (.int .i64 b) := k9.cell 2
  refine bodyPost_ret (v := .tuple #[.agg #[.int .i64 d, .int .i64 a, .int .i64 b], .bool true]) (by simp [results, Tryz.results21, go_sem, q0, q1, q2]) rfl ?_
  exact ⟨rfl, hB9⟩
/-- points of a quartic, told: some -/
def QpP (w : World) (b : Bool) (e : Ending) (w' : World) : Prop := ∃ a n cap, e = .returned (.tuple #[.slice a n cap, .bool true]) ∧ n ≤ 5000 ∧ decide (0 < n) = b ∧ Below w.heap.size w w'
set_option maxHeartbeats 1000000 in
theorem c_quarticPoints (D A C : Int) (n : Int) (hn : inB n 1 60 = true) (hD : -91200 ≤ D ∧ D ≤ 91200) (hA : -91200 ≤ A ∧ A ≤ 91200) (hC : -91200 ≤ C ∧ C ≤ 91200) (h1 : D ≠ 0) (h2 : C ≠ 0) (w : World) :
    Calls Tryz.prog 22 #[.agg #[.int .i64 D, .int .i64 A, .int .i64 C], .int .i64 n] w (QpP w (ptB D A C (n.toNat + 1))) := by
  have hnb := inB_true hn
  have HQ := Lib.hid (fun W => c_isQuartic D A C hD hA hC h1 h2 W)
  have HP := fun W => c_points D A C n.toNat (by omega) hD hA hC W
  have hnn : ((n.toNat : Nat) : Int) = n := by omega
  rw [hnn] at HP
  have HPP := Lib.hid HP
  unfold QpP
  unfold PtsP at HPP
  generalize ptB D A C (n.toNat + 1) = B at *
  clear HP hnn h1 h2
  have kC := Blk.new w #[.int .i64 D, .int .i64 A, .int .i64 C] 43
  have hb0 : Below w.heap.size w (w.alloc (.cells #[.int .i64 D, .int .i64 A, .int .i64 C] 43)) := (Below.refl _ _).alloc (Nat.le_refl _) _
  have hz0 := hb0.size
  go_enter Tryz.func22, Tryz.ntmps22
  go_upto_region 1 with (fail)
  generalize w.alloc _ = W at *
  have kC0 : (W).cell? ⟨w.heap.size, 0, none⟩ = some (.int .i64 D) := kC.cell 0; have kC1 : (W).cell? ⟨w.heap.size, 1, none⟩ = some (.int .i64 A) := kC.cell 1; have kC2 : (W).cell? ⟨w.heap.size, 2, none⟩ = some (.int .i64 C) := kC.cell 2; have kCl : w.heap.size < (W).heap.size := kC.lt
  go_wp2_with fail
  refine (HQ.out _).mono ?_
  rintro e w1 ⟨rfl, hb1⟩
  have hB1 := below_step hb1 hz0 hb0
  have c0 := (hb1.cell (p := ⟨w.heap.size, 0, none⟩) kCl).trans kC0
  have c1 := (hb1.cell (p := ⟨w.heap.size, 1, none⟩) kCl).trans kC1
  have c2 := (hb1.cell (p := ⟨w.heap.size, 2, none⟩) kCl).trans kC2
  have hz1 := hB1.size
  go_wp2_with ((go_at_call 28; refine (c_inside _ _ _ _).mono ?_; rintro e w' ⟨rfl, rfl⟩))
  go_wp2_with fail
  refine (HPP.out _).mono ?_
  rintro e w2 ⟨a, m, cap, rfl, hm1, hm2, hb2⟩
  have hB2 := below_step hb2 hz1 hB1
  go_wp2
  go_ret2
  exact ⟨_, _, _, rfl, hm1, hm2, hB2⟩
end Go.Proofs.YtbmcabphjfpkhaaGreat
