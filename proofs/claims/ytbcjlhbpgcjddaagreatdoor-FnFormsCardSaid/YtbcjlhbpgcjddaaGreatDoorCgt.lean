/- Walks: the text of a congruent number. -/
import Derived.Test.YtbcjlhbpgcjddaaGreatDoorFrT
import Derived.Test.YtbcjlhbpgcjddaaGreatDoorFst
import Derived.Test.YtbcjlhbpgcjddaaGreatDoorForm
namespace Go.Proofs.YtbcjlhbpgcjddaaGreatDoor
open Go.RowKit

theorem ft_fr {n m : Int} (hn : 1 ≤ n ∧ n ≤ 31) (hm : 2 ≤ m ∧ m ≤ 100) (h : ftB n m = true) : ∃ p q r s t u : Int, ftV n m = .agg #[.int .i64 p, .int .i64 q, .int .i64 r, .int .i64 s, .int .i64 t, .int .i64 u] ∧ frOk p q = true ∧ frOk r s = true ∧ frOk t u = true := by
  by_cases hx : ∃ p, Fst n m p
  case neg =>
    have h9 : ftB n m = false := by unfold ftB; simp [hx]
    rw [h9] at h
    cases h
  obtain ⟨⟨u, v⟩, hp⟩ := hx
  rw [(ft_yes hp).2]
  obtain ⟨⟨h1, h2, h3⟩, h4, _⟩ := hp
  simp only at h1 h2 h3 h4
  have hu : 1 ≤ u ∧ u ≤ 100 := by omega
  have hv : 1 ≤ v ∧ v ≤ u - 1 := by omega
  have hm0 : arA u v % n = 0 := by
    unfold scB at h4
    simp only [Bool.and_eq_true, beq_iff_eq] at h4
    exact h4.1
  have hd := sc_facts hn hu hv hm0
  obtain ⟨b1, b2, b3, b4, b5⟩ := ar_bd hu hv
  have hass : 2 * u * v = 2 * (u * v) := Int.mul_assoc 2 u v
  have g1 := mk_small (n := u * u - v * v) (d := rtI (arA u v / n)) (by omega) (by omega)
  have g2 := mk_small (n := 2 * u * v) (d := rtI (arA u v / n)) (by omega) (by omega)
  have g3 := mk_small (n := u * u + v * v) (d := rtI (arA u v / n)) (by omega) (by omega)
  unfold scT
  generalize mkN (u * u - v * v) (rtI (arA u v / n)) = a at *
  generalize mkD (u * u - v * v) (rtI (arA u v / n)) = x at *
  generalize mkN (2 * u * v) (rtI (arA u v / n)) = b at *
  generalize mkD (2 * u * v) (rtI (arA u v / n)) = y at *
  generalize mkN (u * u + v * v) (rtI (arA u v / n)) = c at *
  generalize mkD (u * u + v * v) (rtI (arA u v / n)) = z at *
  cases ho : ordB a x b y
  · exact ⟨_, _, _, _, _, _, ordV_no ho, frOk_abs g1, frOk_abs g2, frOk_abs g3⟩
  · exact ⟨_, _, _, _, _, _, ordV_yes ho, frOk_abs g2, frOk_abs g1, frOk_abs g3⟩
def ctP (S : ByteArray) (b : Bool) (w : World) (e : Ending) (w' : World) : Prop := e = .returned (.tuple #[.string S, .bool b]) ∧ Below w.heap.size w w'
def triS (p q r s t u : Int) : ByteArray := frS p q ++ ⟨#[32]⟩ ++ frS r s ++ ⟨#[32]⟩ ++ frS t u
set_option maxHeartbeats 4000000 in
set_option maxRecDepth 100000 in
theorem c_spec_CongruentText_no (n m : Int) (h : faB n m = false) (w : World) :
    Calls Tryz.prog 14 #[.int .i64 n, .int .i64 m] w (ctP ⟨#[]⟩ false w) := by
  have HG : Hid (∀ w, _) := fun w => c_cnAsked n m w
  rw [h] at HG
  clear h
  go_enter Tryz.func14, Tryz.ntmps14
  go_wp2_with fail
  refine (HG.out _).mono ?_
  rintro e w1 ⟨rfl, hb1⟩
  go_wp2
  go_ret2
  exact ⟨rfl, hb1⟩
set_option maxHeartbeats 4000000 in
set_option maxRecDepth 100000 in
theorem c_spec_CongruentText_may (n m : Int) (h : faB n m = true) (hM : mayB n = false) (w : World) :
    Calls Tryz.prog 14 #[.int .i64 n, .int .i64 m] w (ctP ⟨#[110, 111]⟩ true w) := by
  obtain ⟨hn, hm⟩ := faB_of h
  have HG : Hid (∀ w, _) := fun w => c_cnAsked n m w
  rw [h] at HG
  have HM : Hid (∀ w, _) := fun w => c_cnMay n hn w
  rw [hM] at HM
  clear h hM
  clear hn hm
  go_enter Tryz.func14, Tryz.ntmps14
  go_wp2_with fail
  refine (HG.out _).mono ?_
  rintro e w1 ⟨rfl, hb1⟩
  go_wp2_with fail
  refine (HM.out _).mono ?_
  rintro e w' ⟨rfl, rfl⟩
  go_wp2
  go_ret2
  exact ⟨rfl, hb1⟩
set_option maxHeartbeats 4000000 in
set_option maxRecDepth 100000 in
theorem c_spec_CongruentText_open (n m p q r s t u : Int) (h : faB n m = true) (hM : mayB n = true) (hV : ftV n m = .agg #[.int .i64 p, .int .i64 q, .int .i64 r, .int .i64 s, .int .i64 t, .int .i64 u]) (hO : ftB n m = false) (w : World) :
    Calls Tryz.prog 14 #[.int .i64 n, .int .i64 m] w (ctP ⟨#[111, 112, 101, 110]⟩ true w) := by
  obtain ⟨hn, hm⟩ := faB_of h
  have HG : Hid (∀ w, _) := fun w => c_cnAsked n m w
  rw [h] at HG
  have HM : Hid (∀ w, _) := fun w => c_cnMay n hn w
  rw [hM] at HM
  clear h hM
  have hf := fun w => c_cnFirst n m hn hm w
  rw [hV, hO] at hf
  have HF := Lib.hid hf
  clear hf hV hO hn hm
  go_enter Tryz.func14, Tryz.ntmps14
  go_wp2_with fail
  refine (HG.out _).mono ?_
  rintro e w1 ⟨rfl, hb1⟩
  go_wp2_with fail
  refine (HM.out _).mono ?_
  rintro e w' ⟨rfl, rfl⟩
  go_wp2_with fail
  refine (HF.out _).mono ?_
  rintro e w2 ⟨rfl, hb2⟩
  have hB2 := below_step hb2 hb1.size hb1
  go_wp2
  go_ret2
  exact ⟨rfl, hB2.alloc hB2.size _⟩
set_option maxHeartbeats 4000000 in
set_option maxRecDepth 100000 in
theorem c_spec_CongruentText_yes (n m p q r s t u : Int) (h : faB n m = true) (hM : mayB n = true) (hV : ftV n m = .agg #[.int .i64 p, .int .i64 q, .int .i64 r, .int .i64 s, .int .i64 t, .int .i64 u]) (hO : ftB n m = true) (h1 : frOk p q = true) (h2 : frOk r s = true) (h3 : frOk t u = true) (w : World) :
    Calls Tryz.prog 14 #[.int .i64 n, .int .i64 m] w (ctP (triS p q r s t u) true w) := by
  have kG : ∀ (a b : Int) (w1 : World), frOk a b = true → Calls Tryz.prog 56 #[.agg #[.int .i64 a, .int .i64 b]] w1 fun e w' => e = .returned (.string (frS a b)) ∧ Below w1.heap.size w1 w' := fun a b w1 h => c_frText a b h w1
  have zA := frS_size p q h1
  have zB := frS_size r s h2
  have zC := frS_size t u h3
  have hT : triS p q r s t u = frS p q ++ ⟨#[32]⟩ ++ frS r s ++ ⟨#[32]⟩ ++ frS t u := rfl
  rw [hT]
  clear hT
  have f1 : (frS p q ++ ⟨#[32]⟩ : ByteArray).size = (frS p q).size + 1 := by rw [ByteArray.size_append]; rfl
  have f2 : (frS p q ++ ⟨#[32]⟩ ++ frS r s : ByteArray).size = (frS p q).size + 1 + (frS r s).size := by rw [ByteArray.size_append, f1]
  have f3 : (frS p q ++ ⟨#[32]⟩ ++ frS r s ++ ⟨#[32]⟩ : ByteArray).size = (frS p q).size + 1 + (frS r s).size + 1 := by rw [ByteArray.size_append, f2]; rfl
  have e1 : (⟨#[32]⟩ : ByteArray).size = 1 := rfl
  have HS0 := fun w => run_string_add_sum (P := Tryz.prog) w (frS p q) ⟨#[32]⟩ (by omega)
  have HS1 := fun w => run_string_add_sum (P := Tryz.prog) w (frS p q ++ ⟨#[32]⟩) (frS r s) (by omega)
  have HS2 := fun w => run_string_add_sum (P := Tryz.prog) w (frS p q ++ ⟨#[32]⟩ ++ frS r s) ⟨#[32]⟩ (by omega)
  have HS3 := fun w => run_string_add_sum (P := Tryz.prog) w (frS p q ++ ⟨#[32]⟩ ++ frS r s ++ ⟨#[32]⟩) (frS t u) (by omega)
  have KG := Lib.hid kG
  clear kG f1 f2 f3 e1 zA zB zC
  obtain ⟨hn, hm⟩ := faB_of h
  have HG : Hid (∀ w, _) := fun w => c_cnAsked n m w
  rw [h] at HG
  have HM : Hid (∀ w, _) := fun w => c_cnMay n hn w
  rw [hM] at HM
  clear h hM
  have hf := fun w => c_cnFirst n m hn hm w
  rw [hV, hO] at hf
  have HF := Lib.hid hf
  clear hf hV hO hn hm
  go_enter Tryz.func14, Tryz.ntmps14
  go_wp2_with fail
  refine (HG.out _).mono ?_
  rintro e w1 ⟨rfl, hb1⟩
  go_wp2_with fail
  refine (HM.out _).mono ?_
  rintro e w' ⟨rfl, rfl⟩
  go_wp2_with fail
  refine (HF.out _).mono ?_
  rintro e w2 ⟨rfl, hb2⟩
  have hB2 := below_step hb2 hb1.size hb1
  have kT := Blk.new w2 #[.int .i64 p, .int .i64 q, .int .i64 r, .int .i64 s, .int .i64 t, .int .i64 u] 33
  have hB3 := hB2.alloc hB2.size (.cells #[.int .i64 p, .int .i64 q, .int .i64 r, .int .i64 s, .int .i64 t, .int .i64 u] 33)
  go_wp2
  generalize w2.alloc _ = W at *
  generalize w2.heap.size = r6 at *
  have kT0 : (W).cell? ⟨r6, 0, none⟩ = some (.int .i64 p) := kT.cell 0; have kT1 : (W).cell? ⟨r6, 1, none⟩ = some (.int .i64 q) := kT.cell 1; have kT2 : (W).cell? ⟨r6, 2, none⟩ = some (.int .i64 r) := kT.cell 2; have kT3 : (W).cell? ⟨r6, 3, none⟩ = some (.int .i64 s) := kT.cell 3; have kT4 : (W).cell? ⟨r6, 4, none⟩ = some (.int .i64 t) := kT.cell 4; have kT5 : (W).cell? ⟨r6, 5, none⟩ = some (.int .i64 u) := kT.cell 5; have kTl : r6 < (W).heap.size := kT.lt
  (refine wp_region_clq (by kernel_rfl) (by kernel_rfl) ?_; (repeat (go_big_quiet_step ((go_at_call 56; exact Calls.quiet_cls Closed.true _ (KG.out _ _ _ (by assumption)))))); refine wpQuiet_nil ?_; intro w9 hb9; obtain ⟨hc9, hf9⟩ := bcell hb9; have hz9 := hb9.size; (try simp only [World.size_alloc] at hz9))
  go_wp2
  go_ret2
  exact ⟨rfl, below_step hb9 hB3.size hB3⟩
set_option maxHeartbeats 4000000 in
set_option maxRecDepth 100000 in
theorem c_impl_congruentText_no (n m : Int) (h : faB n m = false) (w : World) :
    Calls Tryz.prog 55 #[.int .i64 n, .int .i64 m] w (ctP ⟨#[]⟩ false w) := by
  have HG : Hid (∀ w, _) := fun w => c_isArea n w
  have H1 : Hid (∀ w, _) := fun w => c_inside m 2 100 w
  have h' : (areaB n && inB m 2 100) = false := h
  clear h
  cases h1 : areaB n
  · rw [h1] at HG
    clear h'
    go_enter Tryz.func55, Tryz.ntmps55
    go_wp2_with fail
    refine (HG.out _).mono ?_
    rintro e w1 ⟨rfl, hb1⟩
    go_wp2
    go_ret2
    exact ⟨rfl, hb1⟩
  · rw [h1] at HG h'
    rw [Bool.true_and] at h'
    rw [h'] at H1
    clear h'
    go_enter Tryz.func55, Tryz.ntmps55
    go_wp2_with fail
    refine (HG.out _).mono ?_
    rintro e w1 ⟨rfl, hb1⟩
    go_wp2_with fail
    refine (H1.out _).mono ?_
    rintro e w' ⟨rfl, rfl⟩
    go_wp2
    go_ret2
    exact ⟨rfl, hb1⟩
set_option maxHeartbeats 4000000 in
set_option maxRecDepth 100000 in
theorem c_impl_congruentText_may (n m : Int) (h : faB n m = true) (hM : mayB n = false) (w : World) :
    Calls Tryz.prog 55 #[.int .i64 n, .int .i64 m] w (ctP ⟨#[110, 111]⟩ true w) := by
  obtain ⟨hn, hm⟩ := faB_of h
  have HG : Hid (∀ w, _) := fun w => c_isArea n w
  have H1 : Hid (∀ w, _) := fun w => c_inside m 2 100 w
  have h' : (areaB n && inB m 2 100) = true := h
  rw [Bool.and_eq_true] at h'
  rw [h'.1] at HG
  rw [h'.2] at H1
  have HC : Hid (∀ w, _) := fun w => c_formCounts n hn w
  have hmay : (fcA n == 2 * fcB n) = false := hM
  have hmay2 : (fcA n != 2 * fcB n) = true := by unfold bne; rw [hmay]; rfl
  have hbd := fc_bd n
  generalize fcA n = A at *
  generalize fcB n = B at *
  have hw2 : IntKind.i64.wrap (2 * B) = 2 * B := IntWalk.i64_in _ (by omega)
  clear h h' hM hbd
  clear hn hm
  go_enter Tryz.func55, Tryz.ntmps55
  go_wp2_with fail
  refine (HG.out _).mono ?_
  rintro e w1 ⟨rfl, hb1⟩
  go_wp2_with fail
  refine (H1.out _).mono ?_
  rintro e w' ⟨rfl, rfl⟩
  go_wp2_with fail
  refine (HC.out _).mono ?_
  rintro e w' ⟨rfl, rfl⟩
  go_wp2
  go_ret2
  exact ⟨rfl, hb1⟩
set_option maxHeartbeats 4000000 in
set_option maxRecDepth 100000 in
theorem c_impl_congruentText_open (n m p q r s t u : Int) (h : faB n m = true) (hM : mayB n = true) (hV : ftV n m = .agg #[.int .i64 p, .int .i64 q, .int .i64 r, .int .i64 s, .int .i64 t, .int .i64 u]) (hO : ftB n m = false) (w : World) :
    Calls Tryz.prog 55 #[.int .i64 n, .int .i64 m] w (ctP ⟨#[111, 112, 101, 110]⟩ true w) := by
  obtain ⟨hn, hm⟩ := faB_of h
  have HG : Hid (∀ w, _) := fun w => c_isArea n w
  have H1 : Hid (∀ w, _) := fun w => c_inside m 2 100 w
  have h' : (areaB n && inB m 2 100) = true := h
  rw [Bool.and_eq_true] at h'
  rw [h'.1] at HG
  rw [h'.2] at H1
  have HC : Hid (∀ w, _) := fun w => c_formCounts n hn w
  have hmay : (fcA n == 2 * fcB n) = true := hM
  have hmay2 : (fcA n != 2 * fcB n) = false := by unfold bne; rw [hmay]; rfl
  have hbd := fc_bd n
  generalize fcA n = A at *
  generalize fcB n = B at *
  have hw2 : IntKind.i64.wrap (2 * B) = 2 * B := IntWalk.i64_in _ (by omega)
  clear h h' hM hbd
  have hf := fun w => c_firstTriangle n m hn hm w
  rw [hV, hO] at hf
  have HF := Lib.hid hf
  clear hf hV hO hn hm
  go_enter Tryz.func55, Tryz.ntmps55
  go_wp2_with fail
  refine (HG.out _).mono ?_
  rintro e w1 ⟨rfl, hb1⟩
  go_wp2_with fail
  refine (H1.out _).mono ?_
  rintro e w' ⟨rfl, rfl⟩
  go_wp2_with fail
  refine (HC.out _).mono ?_
  rintro e w' ⟨rfl, rfl⟩
  go_wp2_with fail
  refine (HF.out _).mono ?_
  rintro e w2 ⟨rfl, hb2⟩
  have hB2 := below_step hb2 hb1.size hb1
  go_wp2
  go_ret2
  exact ⟨rfl, hB2.alloc hB2.size _⟩
set_option maxHeartbeats 4000000 in
set_option maxRecDepth 100000 in
theorem c_impl_congruentText_yes (n m p q r s t u : Int) (h : faB n m = true) (hM : mayB n = true) (hV : ftV n m = .agg #[.int .i64 p, .int .i64 q, .int .i64 r, .int .i64 s, .int .i64 t, .int .i64 u]) (hO : ftB n m = true) (h1 : frOk p q = true) (h2 : frOk r s = true) (h3 : frOk t u = true) (w : World) (ht : TabI w) :
    Calls Tryz.prog 55 #[.int .i64 n, .int .i64 m] w (ctP (triS p q r s t u) true w) := by
  have HW0 := Lib.hid ht
  clear ht
  have kG : ∀ (a b : Int) (w1 : World), frOk a b = true → TabI w1 → Calls Tryz.prog 109 #[.agg #[.int .i64 a, .int .i64 b]] w1 fun e w' => e = .returned (.string (frS a b)) ∧ Below w1.heap.size w1 w' := fun a b w1 h ht => c_fractionText a b h w1 ht
  have zA := frS_size p q h1
  have zB := frS_size r s h2
  have zC := frS_size t u h3
  have hT : triS p q r s t u = frS p q ++ ⟨#[32]⟩ ++ frS r s ++ ⟨#[32]⟩ ++ frS t u := rfl
  rw [hT]
  clear hT
  have f1 : (frS p q ++ ⟨#[32]⟩ : ByteArray).size = (frS p q).size + 1 := by rw [ByteArray.size_append]; rfl
  have f2 : (frS p q ++ ⟨#[32]⟩ ++ frS r s : ByteArray).size = (frS p q).size + 1 + (frS r s).size := by rw [ByteArray.size_append, f1]
  have f3 : (frS p q ++ ⟨#[32]⟩ ++ frS r s ++ ⟨#[32]⟩ : ByteArray).size = (frS p q).size + 1 + (frS r s).size + 1 := by rw [ByteArray.size_append, f2]; rfl
  have e1 : (⟨#[32]⟩ : ByteArray).size = 1 := rfl
  have HS0 := fun w => run_string_add_sum (P := Tryz.prog) w (frS p q) ⟨#[32]⟩ (by omega)
  have HS1 := fun w => run_string_add_sum (P := Tryz.prog) w (frS p q ++ ⟨#[32]⟩) (frS r s) (by omega)
  have HS2 := fun w => run_string_add_sum (P := Tryz.prog) w (frS p q ++ ⟨#[32]⟩ ++ frS r s) ⟨#[32]⟩ (by omega)
  have HS3 := fun w => run_string_add_sum (P := Tryz.prog) w (frS p q ++ ⟨#[32]⟩ ++ frS r s ++ ⟨#[32]⟩) (frS t u) (by omega)
  have KG := Lib.hid kG
  clear kG f1 f2 f3 e1 zA zB zC
  obtain ⟨hn, hm⟩ := faB_of h
  have HG : Hid (∀ w, _) := fun w => c_isArea n w
  have H1 : Hid (∀ w, _) := fun w => c_inside m 2 100 w
  have h' : (areaB n && inB m 2 100) = true := h
  rw [Bool.and_eq_true] at h'
  rw [h'.1] at HG
  rw [h'.2] at H1
  have HC : Hid (∀ w, _) := fun w => c_formCounts n hn w
  have hmay : (fcA n == 2 * fcB n) = true := hM
  have hmay2 : (fcA n != 2 * fcB n) = false := by unfold bne; rw [hmay]; rfl
  have hbd := fc_bd n
  generalize fcA n = A at *
  generalize fcB n = B at *
  have hw2 : IntKind.i64.wrap (2 * B) = 2 * B := IntWalk.i64_in _ (by omega)
  clear h h' hM hbd
  have hf := fun w => c_firstTriangle n m hn hm w
  rw [hV, hO] at hf
  have HF := Lib.hid hf
  clear hf hV hO hn hm
  go_enter Tryz.func55, Tryz.ntmps55
  go_wp2_with fail
  refine (HG.out _).mono ?_
  rintro e w1 ⟨rfl, hb1⟩
  go_wp2_with fail
  refine (H1.out _).mono ?_
  rintro e w' ⟨rfl, rfl⟩
  go_wp2_with fail
  refine (HC.out _).mono ?_
  rintro e w' ⟨rfl, rfl⟩
  go_wp2_with fail
  refine (HF.out _).mono ?_
  rintro e w2 ⟨rfl, hb2⟩
  have hB2 := below_step hb2 hb1.size hb1
  have kT := Blk.new w2 #[.int .i64 p, .int .i64 q, .int .i64 r, .int .i64 s, .int .i64 t, .int .i64 u] 33
  have hB3 := hB2.alloc hB2.size (.cells #[.int .i64 p, .int .i64 q, .int .i64 r, .int .i64 s, .int .i64 t, .int .i64 u] 33)
  go_wp2
  generalize w2.alloc _ = W at *
  generalize w2.heap.size = r6 at *
  have kT0 : (W).cell? ⟨r6, 0, none⟩ = some (.int .i64 p) := kT.cell 0; have kT1 : (W).cell? ⟨r6, 1, none⟩ = some (.int .i64 q) := kT.cell 1; have kT2 : (W).cell? ⟨r6, 2, none⟩ = some (.int .i64 r) := kT.cell 2; have kT3 : (W).cell? ⟨r6, 3, none⟩ = some (.int .i64 s) := kT.cell 3; have kT4 : (W).cell? ⟨r6, 4, none⟩ = some (.int .i64 t) := kT.cell 4; have kT5 : (W).cell? ⟨r6, 5, none⟩ = some (.int .i64 u) := kT.cell 5; have kTl : r6 < (W).heap.size := kT.lt
  have HW := Lib.hid (HW0.out.below hB3)
  (refine wp_region_clq (by kernel_rfl) (by kernel_rfl) ?_; (repeat (go_big_quiet_step ((go_at_call 109; exact Calls.quiet_cls Closed.true _ (KG.out _ _ _ (by assumption) (HW.out.below (Cls.over _).below)))))); refine wpQuiet_nil ?_; intro w9 hb9; obtain ⟨hc9, hf9⟩ := bcell hb9; have hz9 := hb9.size; (try simp only [World.size_alloc] at hz9))
  go_wp2
  go_ret2
  exact ⟨rfl, below_step hb9 hB3.size hB3⟩
set_option maxHeartbeats 1000000 in
theorem c_iCong (n m : Int) (S : ByteArray) (b : Bool) (w : World) (h : ∀ w1 : World, TabI w1 → Calls Tryz.prog 55 #[.int .i64 n, .int .i64 m] w1 (ctP S b w1)) (ht : TabI w) :
    Calls Tryz.prog 13 #[.int .i64 n, .int .i64 m] w (ctP S b w) := by
  have H := Lib.hid (h w ht)
  clear h ht
  go_enter Tryz.func13, Tryz.ntmps13
  go_wp2_with fail
  refine H.out.mono ?_
  rintro e w1 ⟨rfl, hb1⟩
  go_wp2
  go_ret2
  exact ⟨rfl, hb1⟩
theorem ct_all (n m : Int) : ∃ (S : ByteArray) (b : Bool), (∀ w : World, TabI w → Calls Tryz.prog 14 #[.int .i64 n, .int .i64 m] w (ctP S b w)) ∧ (∀ w : World, TabI w → Calls Tryz.prog 55 #[.int .i64 n, .int .i64 m] w (ctP S b w)) := by
  cases h : faB n m
  · exact ⟨_, _, fun w _ => c_spec_CongruentText_no n m h w, fun w _ => c_impl_congruentText_no n m h w⟩
  · cases hM : mayB n
    · exact ⟨_, _, fun w _ => c_spec_CongruentText_may n m h hM w, fun w _ => c_impl_congruentText_may n m h hM w⟩
    · cases hO : ftB n m
      · obtain ⟨p, q, r, s, t, u, hV⟩ := ftV_form n m
        exact ⟨_, _, fun w _ => c_spec_CongruentText_open n m p q r s t u h hM hV hO w, fun w _ => c_impl_congruentText_open n m p q r s t u h hM hV hO w⟩
      · obtain ⟨hn, hm⟩ := faB_of h
        obtain ⟨p, q, r, s, t, u, hV, h1, h2, h3⟩ := ft_fr hn hm hO
        exact ⟨_, _, fun w _ => c_spec_CongruentText_yes n m p q r s t u h hM hV hO h1 h2 h3 w, fun w ht => c_impl_congruentText_yes n m p q r s t u h hM hV hO h1 h2 h3 w ht⟩
end Go.Proofs.YtbcjlhbpgcjddaaGreatDoor
