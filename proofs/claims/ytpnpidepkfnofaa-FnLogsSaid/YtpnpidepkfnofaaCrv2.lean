/- Walks: CurvesOfLog, ReplayLog, CheckLog. -/
import Derived.Test.YtpnpidepkfnofaaCrv
import Derived.Test.YtpnpidepkfnofaaChain
namespace Go.Proofs.Ytpnpidepkfnofaa
open Go.RowKit

theorem cc_of {A B : Int} {L : List (Int × Int)} (h1 : curveB A B = true) (h2 : logB L = true) : ccL (A, B) L = crR (A, B) L ∧ ccO (A, B) L = crO (A, B) L := by
  unfold ccL crR ccO
  rw [h1, h2]; exact ⟨rfl, rfl⟩
theorem cc_no1 {A B : Int} {L : List (Int × Int)} (h1 : curveB A B = false) : ccL (A, B) L = [] ∧ ccO (A, B) L = false := by
  unfold ccL ccO
  rw [h1]; exact ⟨rfl, rfl⟩
theorem cc_no2 {A B : Int} {L : List (Int × Int)} (h1 : logB L = false) : ccL (A, B) L = [] ∧ ccO (A, B) L = false := by
  unfold ccL ccO
  rw [h1, Bool.and_false]; exact ⟨rfl, rfl⟩
theorem ListPost.nil' {T : TypeId} {w w' : World} {L : List (Int × Int)} {b : Bool} (h : L = [] ∧ b = false) (hb : Below w.heap.size w w') : ListPost T w L b (.returned (.tuple #[.slice none 0 0, .bool false])) w' := by
  rw [h.1, h.2]
  exact ⟨_, rfl, OwnsP.nil _ _ _, hb⟩
theorem ListPost.of {T : TypeId} {w w' : World} {v : Value} {L M : List (Int × Int)} {b c : Bool} (h : L = M ∧ b = c) (ho : OwnsP T w' w.heap.size v M) (hb : Below w.heap.size w w') : ListPost T w L b (.returned (.tuple #[v, .bool c])) w' := by
  rw [h.1, h.2]
  exact ⟨_, rfl, ho, hb⟩
noncomputable def rpE (A B : Int) (L : List (Int × Int)) : Int × Int := if ccO (A, B) L then crE (A, B) L else (0, 0)
noncomputable def ckO (A B : Int) (L : List (Int × Int)) (C D : Int) : Bool := curveB A B && logB L && curveB C D
noncomputable def ckB (A B : Int) (L : List (Int × Int)) (C D : Int) : Bool := ckO A B L C D && (crO (A, B) L && ((crE (A, B) L).1 == C && (crE (A, B) L).2 == D))
def PairPost (w : World) (c : Int × Int) (b : Bool) (e : Ending) (w' : World) : Prop := e = .returned (.tuple #[.agg #[.int .i64 c.1, .int .i64 c.2], .bool b]) ∧ Below w.heap.size w w'
theorem PairPost.no {w w' : World} {A B : Int} {L : List (Int × Int)} (h : ccO (A, B) L = false) (hb : Below w.heap.size w w') : PairPost w (rpE A B L) (ccO (A, B) L) (.returned (.tuple #[.agg #[.int .i64 0, .int .i64 0], .bool false])) w' := by
  unfold rpE
  rw [h]
  exact ⟨rfl, hb⟩
theorem PairPost.yes {w w' : World} {A B X Y : Int} {L : List (Int × Int)} (h : ccO (A, B) L = true) (he : crE (A, B) L = (X, Y)) (hb : Below w.heap.size w w') : PairPost w (rpE A B L) (ccO (A, B) L) (.returned (.tuple #[.agg #[.int .i64 X, .int .i64 Y], .bool true])) w' := by
  unfold rpE
  rw [h, he]
  exact ⟨rfl, hb⟩
def BoolsPost (w : World) (a b : Bool) (e : Ending) (w' : World) : Prop := e = .returned (.tuple #[.bool a, .bool b]) ∧ Below w.heap.size w w'
theorem BoolsPost.of {w w' : World} {a b a' b' : Bool} (h : a = a' ∧ b = b') (hb : Below w.heap.size w w') : BoolsPost w a b (.returned (.tuple #[.bool a', .bool b'])) w' := by
  rw [h.1, h.2]
  exact ⟨rfl, hb⟩
theorem ck_no {A B C D : Int} {L : List (Int × Int)} (h : curveB A B = false ∨ logB L = false ∨ curveB C D = false) : ckB A B L C D = false ∧ ckO A B L C D = false := by
  have : ckO A B L C D = false := by
    unfold ckO
    rcases h with h | h | h <;> rw [h] <;> simp
  unfold ckB
  rw [this]; exact ⟨rfl, rfl⟩
theorem ck_yes {A B C D : Int} {L : List (Int × Int)} (h1 : curveB A B = true) (h2 : logB L = true) (h3 : curveB C D = true) : ckB A B L C D = (crO (A, B) L && ((crE (A, B) L).1 == C && (crE (A, B) L).2 == D)) ∧ ckO A B L C D = true := by
  have : ckO A B L C D = true := by unfold ckO; rw [h1, h2, h3]; rfl
  unfold ckB
  rw [this, Bool.true_and]; exact ⟨rfl, rfl⟩
theorem crR_at {A B : Int} {L : List (Int × Int)} (h : crO (A, B) L = true) : (crR (A, B) L).length = L.length + 1 ∧ ∀ (hi : L.length < (crR (A, B) L).length), (crR (A, B) L)[L.length] = crE (A, B) L := by
  unfold crR
  rw [h]
  exact ⟨crL_len _ _, fun hi => crL_last L (A, B) hi⟩
set_option maxHeartbeats 2000000 in
theorem c_sCurvesOfLog (base : Nat) (v : Value) (A B : Int) (L : List (Int × Int)) (hL : L.length ≤ 100000000) (w : World) (hown : OwnsS w base v L) :
    Calls Try.prog 9 #[.agg #[.int .i64 A, .int .i64 B], v] w (ListPost 25 w (ccL (A, B) L) (ccO (A, B) L)) := by
  have H0 := Lib.hid (c_tlLog base v L hL)
  have ho1 := OwnsP.below hown ((Below.refl w.heap.size w).alloc (Nat.le_refl _) (.cells #[.int .i64 A, .int .i64 B] 25))
  cases h1 : curveB A B
  · have HE := Lib.hid (cc_no1 (L := L) h1)
    go_enter Try.func9, Try.ntmps9
    go_wp2_with ((go_at_call 29; refine (c_ecGood _ _ _).mono ?_; rintro e w1 ⟨rfl, hb1⟩; obtain ⟨hc1, hf1⟩ := bcell hb1; have hz1 := hb1.size; (try simp only [World.size_alloc] at hz1); (try (have hy1 : w.heap.size < w1.heap.size := by omega)); (try (have hx1 := Nat.lt_of_succ_le hz1)); (try (have hv1 := Nat.lt_of_succ_le (Nat.le_of_lt hx1)))))
    go_ret2
    exact ListPost.nil' HE.out (by (repeat' (first | (with_reducible exact Below.refl _ _) | (with_reducible refine below_step (by assumption) ?_ ?_) | (with_reducible refine Below.alloc ?_ ?_ _) | (with_reducible refine Below.setCell ?_ ?_ _) | (with_reducible refine below_drewN ?_ _) | (with_reducible refine Below.drew ?_) | omega | (simp; omega) | (simp; done))))
  · cases h2 : logB L
    · have HE := Lib.hid (cc_no2 (A := A) (B := B) h2)
      rw [h2] at H0
      go_enter Try.func9, Try.ntmps9
      go_wp2_with fail
      (go_at_call 29; refine (c_ecGood _ _ _).mono ?_; rintro e w1 ⟨rfl, hb1⟩; obtain ⟨hc1, hf1⟩ := bcell hb1; have hz1 := hb1.size; (try simp only [World.size_alloc] at hz1); (try (have hy1 : w.heap.size < w1.heap.size := by omega)); (try (have hx1 := Nat.lt_of_succ_le hz1)); (try (have hv1 := Nat.lt_of_succ_le (Nat.le_of_lt hx1))))
      go_wp2_with ((go_at_call 30; refine (H0.out _ (OwnsP.below ho1 hb1)).mono ?_; rintro e w2 ⟨rfl, hb2⟩; obtain ⟨hc2, hf2⟩ := bcell hb2; have hz2 := hb2.size; (try simp only [World.size_alloc] at hz2); (try (have hy2 : w.heap.size < w2.heap.size := by omega)); (try (have hx2 := Nat.lt_of_succ_le hz2)); (try (have hv2 := Nat.lt_of_succ_le (Nat.le_of_lt hx2))); (try (have hy2_1 : w1.heap.size < w2.heap.size := by omega))))
      go_ret2
      exact ListPost.nil' HE.out (by (repeat' (first | (with_reducible exact Below.refl _ _) | (with_reducible refine below_step (by assumption) ?_ ?_) | (with_reducible refine Below.alloc ?_ ?_ _) | (with_reducible refine Below.setCell ?_ ?_ _) | (with_reducible refine below_drewN ?_ _) | (with_reducible refine Below.drew ?_) | omega | (simp; omega) | (simp; done))))
    · have HE := Lib.hid (cc_of h1 h2)
      have HC : Hid (∀ w u, _) := fun w u => c_tlCurves base v A B L h1 h2 w u
      rw [h2] at H0
      clear h2
      go_enter Try.func9, Try.ntmps9
      go_wp2_with fail
      (go_at_call 29; refine (c_ecGood _ _ _).mono ?_; rintro e w1 ⟨rfl, hb1⟩; obtain ⟨hc1, hf1⟩ := bcell hb1; have hz1 := hb1.size; (try simp only [World.size_alloc] at hz1); (try (have hy1 : w.heap.size < w1.heap.size := by omega)); (try (have hx1 := Nat.lt_of_succ_le hz1)); (try (have hv1 := Nat.lt_of_succ_le (Nat.le_of_lt hx1))))
      go_wp2_with fail
      (go_at_call 30; refine (H0.out _ (OwnsP.below ho1 hb1)).mono ?_; rintro e w2 ⟨rfl, hb2⟩; obtain ⟨hc2, hf2⟩ := bcell hb2; have hz2 := hb2.size; (try simp only [World.size_alloc] at hz2); (try (have hy2 : w.heap.size < w2.heap.size := by omega)); (try (have hx2 := Nat.lt_of_succ_le hz2)); (try (have hv2 := Nat.lt_of_succ_le (Nat.le_of_lt hx2))); (try (have hy2_1 : w1.heap.size < w2.heap.size := by omega)))
      go_wp2_with fail
      refine (HC.out _ (OwnsP.below (OwnsP.below ho1 hb1) hb2)).mono ?_
      rintro e w3 ⟨rv, rfl, ho3, hb3⟩
      go_wp2
      go_ret2
      have hs1 := hb1.size
      simp only [World.size_alloc] at hs1
      exact ListPost.of HE.out (ho3.le (by omega)) (by (repeat' (first | (with_reducible exact Below.refl _ _) | (with_reducible refine below_step (by assumption) ?_ ?_) | (with_reducible refine Below.alloc ?_ ?_ _) | (with_reducible refine Below.setCell ?_ ?_ _) | (with_reducible refine below_drewN ?_ _) | (with_reducible refine Below.drew ?_) | omega | (simp; omega) | (simp; done))))
set_option maxHeartbeats 2000000 in
theorem c_sReplayLog (base : Nat) (v : Value) (A B : Int) (L : List (Int × Int)) (hL : L.length ≤ 100000000) (w : World) (hown : OwnsS w base v L) :
    Calls Try.prog 7 #[.agg #[.int .i64 A, .int .i64 B], v] w (PairPost w (rpE A B L) (ccO (A, B) L)) := by
  have H0 := Lib.hid (c_tlLog base v L hL)
  have hAA : Below w.heap.size w ((w.alloc (.cells #[.int .i64 A, .int .i64 B] 25)).alloc (.cells #[.int .i64 0, .int .i64 0] 25)) := by (repeat' (first | (with_reducible exact Below.refl _ _) | (with_reducible refine below_step (by assumption) ?_ ?_) | (with_reducible refine Below.alloc ?_ ?_ _) | (with_reducible refine Below.setCell ?_ ?_ _) | (with_reducible refine below_drewN ?_ _) | (with_reducible refine Below.drew ?_) | omega | (simp; omega) | (simp; done)))
  have kR := Blk.new (w.alloc (.cells #[.int .i64 A, .int .i64 B] 25)) #[.int .i64 0, .int .i64 0] 25
  have hAs := hAA.size
  have ho1 := OwnsP.below hown ((Below.refl w.heap.size w).alloc (Nat.le_refl _) (.cells #[.int .i64 A, .int .i64 B] 25))
  have ho1 := OwnsP.below ho1 ((Below.refl _ _).alloc (Nat.le_refl _) (.cells #[.int .i64 0, .int .i64 0] 25))
  simp only [World.size_alloc] at kR
  cases h1 : curveB A B
  · have HE := Lib.hid (cc_no1 (L := L) h1)
    go_enter Try.func7, Try.ntmps7
    go_wp2_with fail
    (go_at_call 29; refine (c_ecGood _ _ _).mono ?_; rintro e w1 ⟨rfl, hb1⟩; obtain ⟨hc1, hf1⟩ := bcell hb1; have hz1 := hb1.size; (try simp only [World.size_alloc] at hz1); (try (have hy1 : w.heap.size < w1.heap.size := by omega)); (try (have hx1 := Nat.lt_of_succ_le hz1)); (try (have hv1 := Nat.lt_of_succ_le (Nat.le_of_lt hx1))))
    have k1 := kR.next hb1
    have k10 : (w1).cell? ⟨w.heap.size + 1, 0, none⟩ = some (.int .i64 0) := k1.cell 0; have k11 : (w1).cell? ⟨w.heap.size + 1, 1, none⟩ = some (.int .i64 0) := k1.cell 1; have k1f0 : (w1).frozen? ⟨w.heap.size + 1, 0, none⟩ = false := k1.frozen 0; have k1f1 : (w1).frozen? ⟨w.heap.size + 1, 1, none⟩ = false := k1.frozen 1; have k1l : w.heap.size + 1 < (w1).heap.size := k1.lt
    go_wp2
    refine bodyPost_ret (v := .tuple #[.agg #[.int .i64 0, .int .i64 0], .bool false]) (by simp [results, Try.results7, go_sem, k10, k11]) rfl ?_
    exact PairPost.no HE.out.2 (by (repeat' (first | (with_reducible exact Below.refl _ _) | (with_reducible refine below_step (by assumption) ?_ ?_) | (with_reducible refine Below.alloc ?_ ?_ _) | (with_reducible refine Below.setCell ?_ ?_ _) | (with_reducible refine below_drewN ?_ _) | (with_reducible refine Below.drew ?_) | omega | (simp; omega) | (simp; done))))
  · cases h2 : logB L
    · have HE := Lib.hid (cc_no2 (A := A) (B := B) h2)
      rw [h2] at H0
      go_enter Try.func7, Try.ntmps7
      go_wp2_with fail
      (go_at_call 29; refine (c_ecGood _ _ _).mono ?_; rintro e w1 ⟨rfl, hb1⟩; obtain ⟨hc1, hf1⟩ := bcell hb1; have hz1 := hb1.size; (try simp only [World.size_alloc] at hz1); (try (have hy1 : w.heap.size < w1.heap.size := by omega)); (try (have hx1 := Nat.lt_of_succ_le hz1)); (try (have hv1 := Nat.lt_of_succ_le (Nat.le_of_lt hx1))))
      go_wp2_with fail
      (go_at_call 30; refine (H0.out _ (OwnsP.below ho1 hb1)).mono ?_; rintro e w2 ⟨rfl, hb2⟩; obtain ⟨hc2, hf2⟩ := bcell hb2; have hz2 := hb2.size; (try simp only [World.size_alloc] at hz2); (try (have hy2 : w.heap.size < w2.heap.size := by omega)); (try (have hx2 := Nat.lt_of_succ_le hz2)); (try (have hv2 := Nat.lt_of_succ_le (Nat.le_of_lt hx2))); (try (have hy2_1 : w1.heap.size < w2.heap.size := by omega)))
      have k1 := (kR.next hb1).next hb2
      have k10 : (w2).cell? ⟨w.heap.size + 1, 0, none⟩ = some (.int .i64 0) := k1.cell 0; have k11 : (w2).cell? ⟨w.heap.size + 1, 1, none⟩ = some (.int .i64 0) := k1.cell 1; have k1f0 : (w2).frozen? ⟨w.heap.size + 1, 0, none⟩ = false := k1.frozen 0; have k1f1 : (w2).frozen? ⟨w.heap.size + 1, 1, none⟩ = false := k1.frozen 1; have k1l : w.heap.size + 1 < (w2).heap.size := k1.lt
      go_wp2
      refine bodyPost_ret (v := .tuple #[.agg #[.int .i64 0, .int .i64 0], .bool false]) (by simp [results, Try.results7, go_sem, k10, k11]) rfl ?_
      exact PairPost.no HE.out.2 (by (repeat' (first | (with_reducible exact Below.refl _ _) | (with_reducible refine below_step (by assumption) ?_ ?_) | (with_reducible refine Below.alloc ?_ ?_ _) | (with_reducible refine Below.setCell ?_ ?_ _) | (with_reducible refine below_drewN ?_ _) | (with_reducible refine Below.drew ?_) | omega | (simp; omega) | (simp; done))))
    · have HE := Lib.hid (cc_of h1 h2)
      have HC : Hid (∀ w u, _) := fun w u => c_tlCurves base v A B L h1 h2 w u
      rw [h2] at H0
      obtain ⟨hl, _⟩ := logB_of h2
      clear h2
      cases h3 : crO (A, B) L
      · rw [h3] at HC HE
        go_enter Try.func7, Try.ntmps7
        go_wp2_with fail
        (go_at_call 29; refine (c_ecGood _ _ _).mono ?_; rintro e w1 ⟨rfl, hb1⟩; obtain ⟨hc1, hf1⟩ := bcell hb1; have hz1 := hb1.size; (try simp only [World.size_alloc] at hz1); (try (have hy1 : w.heap.size < w1.heap.size := by omega)); (try (have hx1 := Nat.lt_of_succ_le hz1)); (try (have hv1 := Nat.lt_of_succ_le (Nat.le_of_lt hx1))))
        go_wp2_with fail
        (go_at_call 30; refine (H0.out _ (OwnsP.below ho1 hb1)).mono ?_; rintro e w2 ⟨rfl, hb2⟩; obtain ⟨hc2, hf2⟩ := bcell hb2; have hz2 := hb2.size; (try simp only [World.size_alloc] at hz2); (try (have hy2 : w.heap.size < w2.heap.size := by omega)); (try (have hx2 := Nat.lt_of_succ_le hz2)); (try (have hv2 := Nat.lt_of_succ_le (Nat.le_of_lt hx2))); (try (have hy2_1 : w1.heap.size < w2.heap.size := by omega)))
        go_wp2_with fail
        refine (HC.out _ (OwnsP.below (OwnsP.below ho1 hb1) hb2)).mono ?_
        rintro e w3 ⟨rv, rfl, ho3, hb3⟩
        have k1 := ((kR.next hb1).next hb2).next hb3
        have k10 : (w3).cell? ⟨w.heap.size + 1, 0, none⟩ = some (.int .i64 0) := k1.cell 0; have k11 : (w3).cell? ⟨w.heap.size + 1, 1, none⟩ = some (.int .i64 0) := k1.cell 1; have k1f0 : (w3).frozen? ⟨w.heap.size + 1, 0, none⟩ = false := k1.frozen 0; have k1f1 : (w3).frozen? ⟨w.heap.size + 1, 1, none⟩ = false := k1.frozen 1; have k1l : w.heap.size + 1 < (w3).heap.size := k1.lt
        go_wp2
        refine bodyPost_ret (v := .tuple #[.agg #[.int .i64 0, .int .i64 0], .bool false]) (by simp [results, Try.results7, go_sem, k10, k11]) rfl ?_
        exact PairPost.no HE.out.2 (by (repeat' (first | (with_reducible exact Below.refl _ _) | (with_reducible refine below_step (by assumption) ?_ ?_) | (with_reducible refine Below.alloc ?_ ?_ _) | (with_reducible refine Below.setCell ?_ ?_ _) | (with_reducible refine below_drewN ?_ _) | (with_reducible refine Below.drew ?_) | omega | (simp; omega) | (simp; done))))
      · obtain ⟨hl1, hl2⟩ := crR_at h3
        rw [h3] at HC HE
        obtain ⟨a0, cap0, hv0, hf0⟩ := OwnsP.form hown
        subst hv0
        clear hf0 hown
        go_enter Try.func7, Try.ntmps7
        go_wp2_with fail
        (go_at_call 29; refine (c_ecGood _ _ _).mono ?_; rintro e w1 ⟨rfl, hb1⟩; obtain ⟨hc1, hf1⟩ := bcell hb1; have hz1 := hb1.size; (try simp only [World.size_alloc] at hz1); (try (have hy1 : w.heap.size < w1.heap.size := by omega)); (try (have hx1 := Nat.lt_of_succ_le hz1)); (try (have hv1 := Nat.lt_of_succ_le (Nat.le_of_lt hx1))))
        go_wp2_with fail
        (go_at_call 30; refine (H0.out _ (OwnsP.below ho1 hb1)).mono ?_; rintro e w2 ⟨rfl, hb2⟩; obtain ⟨hc2, hf2⟩ := bcell hb2; have hz2 := hb2.size; (try simp only [World.size_alloc] at hz2); (try (have hy2 : w.heap.size < w2.heap.size := by omega)); (try (have hx2 := Nat.lt_of_succ_le hz2)); (try (have hv2 := Nat.lt_of_succ_le (Nat.le_of_lt hx2))); (try (have hy2_1 : w1.heap.size < w2.heap.size := by omega)))
        go_wp2_with fail
        refine (HC.out _ (OwnsP.below (OwnsP.below ho1 hb1) hb2)).mono ?_
        rintro e w3 ⟨rv, rfl, ho3, hb3⟩
        obtain ⟨a, cap, hv, hf⟩ := OwnsP.form ho3
        rw [hl1] at hv
        subst hv
        obtain ⟨g, rfl, q1, q2, _, hg, _⟩ := hf L.length (by omega)
        have HL := Lib.hid (hl2 (by omega))
        generalize (crR (A, B) L)[L.length] = c at q1 q2 HL
        obtain ⟨X, Y⟩ := c
        have k1 := ((kR.next hb1).next hb2).next hb3
        have hbb : Below w.heap.size w w3 := by (repeat' (first | (with_reducible exact Below.refl _ _) | (with_reducible refine below_step (by assumption) ?_ ?_) | (with_reducible refine Below.alloc ?_ ?_ _) | (with_reducible refine Below.setCell ?_ ?_ _) | (with_reducible refine below_drewN ?_ _) | (with_reducible refine Below.drew ?_) | omega | (simp; omega) | (simp; done)))
        have k10 : (w3).cell? ⟨w.heap.size + 1, 0, none⟩ = some (.int .i64 0) := k1.cell 0; have k11 : (w3).cell? ⟨w.heap.size + 1, 1, none⟩ = some (.int .i64 0) := k1.cell 1; have k1f0 : (w3).frozen? ⟨w.heap.size + 1, 0, none⟩ = false := k1.frozen 0; have k1f1 : (w3).frozen? ⟨w.heap.size + 1, 1, none⟩ = false := k1.frozen 1; have k1l : w.heap.size + 1 < (w3).heap.size := k1.lt
        clear hl1 hl2 hf ho3
        go_wp2
        refine bodyPost_ret (v := .tuple #[.agg #[.int .i64 X, .int .i64 Y], .bool true]) (by simp [results, Try.results7, go_sem, k10, k11]) rfl ?_
        exact PairPost.yes HE.out.2 HL.out.symm (by (repeat' (first | (with_reducible exact Below.refl _ _) | (with_reducible refine below_step (by assumption) ?_ ?_) | (with_reducible refine Below.alloc ?_ ?_ _) | (with_reducible refine Below.setCell ?_ ?_ _) | (with_reducible refine below_drewN ?_ _) | (with_reducible refine Below.drew ?_) | omega | (simp; omega) | (simp; done))))
set_option maxHeartbeats 4000000 in
theorem c_sCheckLog (base : Nat) (v : Value) (A B : Int) (L : List (Int × Int)) (C D : Int) (hL : L.length ≤ 100000000) (w : World) (hown : OwnsS w base v L) :
    Calls Try.prog 21 #[.agg #[.int .i64 A, .int .i64 B], v, .agg #[.int .i64 C, .int .i64 D]] w (BoolsPost w (ckB A B L C D) (ckO A B L C D)) := by
  have H0 := Lib.hid (c_tlLog base v L hL)
  have hAA : Below w.heap.size w ((w.alloc (.cells #[.int .i64 A, .int .i64 B] 25)).alloc (.cells #[.int .i64 C, .int .i64 D] 25)) := by (repeat' (first | (with_reducible exact Below.refl _ _) | (with_reducible refine below_step (by assumption) ?_ ?_) | (with_reducible refine Below.alloc ?_ ?_ _) | (with_reducible refine Below.setCell ?_ ?_ _) | (with_reducible refine below_drewN ?_ _) | (with_reducible refine Below.drew ?_) | omega | (simp; omega) | (simp; done)))
  have kR := Blk.new (w.alloc (.cells #[.int .i64 A, .int .i64 B] 25)) #[.int .i64 C, .int .i64 D] 25
  have hAs := hAA.size
  have ho1 := OwnsP.below hown ((Below.refl w.heap.size w).alloc (Nat.le_refl _) (.cells #[.int .i64 A, .int .i64 B] 25))
  have ho1 := OwnsP.below ho1 ((Below.refl _ _).alloc (Nat.le_refl _) (.cells #[.int .i64 C, .int .i64 D] 25))
  simp only [World.size_alloc] at kR
  cases h1 : curveB A B
  · have HE := Lib.hid (ck_no (L := L) (C := C) (D := D) (.inl h1))
    go_enter Try.func21, Try.ntmps21
    go_wp2_with fail
    (go_at_call 29; refine (c_ecGood _ _ _).mono ?_; rintro e w1 ⟨rfl, hb1⟩; obtain ⟨hc1, hf1⟩ := bcell hb1; have hz1 := hb1.size; (try simp only [World.size_alloc] at hz1); (try (have hy1 : w.heap.size < w1.heap.size := by omega)); (try (have hx1 := Nat.lt_of_succ_le hz1)); (try (have hv1 := Nat.lt_of_succ_le (Nat.le_of_lt hx1))))
    go_wp2
    go_ret2
    exact BoolsPost.of HE.out (by (repeat' (first | (with_reducible exact Below.refl _ _) | (with_reducible refine below_step (by assumption) ?_ ?_) | (with_reducible refine Below.alloc ?_ ?_ _) | (with_reducible refine Below.setCell ?_ ?_ _) | (with_reducible refine below_drewN ?_ _) | (with_reducible refine Below.drew ?_) | omega | (simp; omega) | (simp; done))))
  · cases h2 : logB L
    · have HE := Lib.hid (ck_no (A := A) (B := B) (C := C) (D := D) (.inr (.inl h2)))
      rw [h2] at H0
      go_enter Try.func21, Try.ntmps21
      go_wp2_with fail
      (go_at_call 29; refine (c_ecGood _ _ _).mono ?_; rintro e w1 ⟨rfl, hb1⟩; obtain ⟨hc1, hf1⟩ := bcell hb1; have hz1 := hb1.size; (try simp only [World.size_alloc] at hz1); (try (have hy1 : w.heap.size < w1.heap.size := by omega)); (try (have hx1 := Nat.lt_of_succ_le hz1)); (try (have hv1 := Nat.lt_of_succ_le (Nat.le_of_lt hx1))))
      go_wp2_with fail
      (go_at_call 30; refine (H0.out _ (OwnsP.below ho1 hb1)).mono ?_; rintro e w2 ⟨rfl, hb2⟩; obtain ⟨hc2, hf2⟩ := bcell hb2; have hz2 := hb2.size; (try simp only [World.size_alloc] at hz2); (try (have hy2 : w.heap.size < w2.heap.size := by omega)); (try (have hx2 := Nat.lt_of_succ_le hz2)); (try (have hv2 := Nat.lt_of_succ_le (Nat.le_of_lt hx2))); (try (have hy2_1 : w1.heap.size < w2.heap.size := by omega)))
      go_wp2
      go_ret2
      exact BoolsPost.of HE.out (by (repeat' (first | (with_reducible exact Below.refl _ _) | (with_reducible refine below_step (by assumption) ?_ ?_) | (with_reducible refine Below.alloc ?_ ?_ _) | (with_reducible refine Below.setCell ?_ ?_ _) | (with_reducible refine below_drewN ?_ _) | (with_reducible refine Below.drew ?_) | omega | (simp; omega) | (simp; done))))
    · cases h4 : curveB C D
      · have HE := Lib.hid (ck_no (A := A) (B := B) (L := L) (.inr (.inr h4)))
        rw [h2] at H0
        clear h2
        go_enter Try.func21, Try.ntmps21
        go_wp2_with fail
        (go_at_call 29; refine (c_ecGood _ _ _).mono ?_; rintro e w1 ⟨rfl, hb1⟩; obtain ⟨hc1, hf1⟩ := bcell hb1; have hz1 := hb1.size; (try simp only [World.size_alloc] at hz1); (try (have hy1 : w.heap.size < w1.heap.size := by omega)); (try (have hx1 := Nat.lt_of_succ_le hz1)); (try (have hv1 := Nat.lt_of_succ_le (Nat.le_of_lt hx1))))
        go_wp2_with fail
        (go_at_call 30; refine (H0.out _ (OwnsP.below ho1 hb1)).mono ?_; rintro e w2 ⟨rfl, hb2⟩; obtain ⟨hc2, hf2⟩ := bcell hb2; have hz2 := hb2.size; (try simp only [World.size_alloc] at hz2); (try (have hy2 : w.heap.size < w2.heap.size := by omega)); (try (have hx2 := Nat.lt_of_succ_le hz2)); (try (have hv2 := Nat.lt_of_succ_le (Nat.le_of_lt hx2))); (try (have hy2_1 : w1.heap.size < w2.heap.size := by omega)))
        go_wp2_with fail
        (go_at_call 29; refine (c_ecGood _ _ _).mono ?_; rintro e w3 ⟨rfl, hb3⟩; obtain ⟨hc3, hf3⟩ := bcell hb3; have hz3 := hb3.size; (try simp only [World.size_alloc] at hz3); (try (have hy3 : w.heap.size < w3.heap.size := by omega)); (try (have hx3 := Nat.lt_of_succ_le hz3)); (try (have hv3 := Nat.lt_of_succ_le (Nat.le_of_lt hx3))); (try (have hy3_1 : w1.heap.size < w3.heap.size := by omega)); (try (have hy3_2 : w2.heap.size < w3.heap.size := by omega)))
        go_wp2
        go_ret2
        exact BoolsPost.of HE.out (by (repeat' (first | (with_reducible exact Below.refl _ _) | (with_reducible refine below_step (by assumption) ?_ ?_) | (with_reducible refine Below.alloc ?_ ?_ _) | (with_reducible refine Below.setCell ?_ ?_ _) | (with_reducible refine below_drewN ?_ _) | (with_reducible refine Below.drew ?_) | omega | (simp; omega) | (simp; done))))
      · have HC : Hid (∀ w u, _) := fun w u => c_tlCurves base v A B L h1 h2 w u
        have HE := Lib.hid (ck_yes h1 h2 h4)
        rw [h2] at H0
        obtain ⟨hl, _⟩ := logB_of h2
        clear h2
        cases h3 : crO (A, B) L
        · rw [h3] at HC HE
          go_enter Try.func21, Try.ntmps21
          go_wp2_with fail
          (go_at_call 29; refine (c_ecGood _ _ _).mono ?_; rintro e w1 ⟨rfl, hb1⟩; obtain ⟨hc1, hf1⟩ := bcell hb1; have hz1 := hb1.size; (try simp only [World.size_alloc] at hz1); (try (have hy1 : w.heap.size < w1.heap.size := by omega)); (try (have hx1 := Nat.lt_of_succ_le hz1)); (try (have hv1 := Nat.lt_of_succ_le (Nat.le_of_lt hx1))))
          go_wp2_with fail
          (go_at_call 30; refine (H0.out _ (OwnsP.below ho1 hb1)).mono ?_; rintro e w2 ⟨rfl, hb2⟩; obtain ⟨hc2, hf2⟩ := bcell hb2; have hz2 := hb2.size; (try simp only [World.size_alloc] at hz2); (try (have hy2 : w.heap.size < w2.heap.size := by omega)); (try (have hx2 := Nat.lt_of_succ_le hz2)); (try (have hv2 := Nat.lt_of_succ_le (Nat.le_of_lt hx2))); (try (have hy2_1 : w1.heap.size < w2.heap.size := by omega)))
          go_wp2_with fail
          (go_at_call 29; refine (c_ecGood _ _ _).mono ?_; rintro e w3 ⟨rfl, hb3⟩; obtain ⟨hc3, hf3⟩ := bcell hb3; have hz3 := hb3.size; (try simp only [World.size_alloc] at hz3); (try (have hy3 : w.heap.size < w3.heap.size := by omega)); (try (have hx3 := Nat.lt_of_succ_le hz3)); (try (have hv3 := Nat.lt_of_succ_le (Nat.le_of_lt hx3))); (try (have hy3_1 : w1.heap.size < w3.heap.size := by omega)); (try (have hy3_2 : w2.heap.size < w3.heap.size := by omega)))
          go_wp2_with fail
          refine (HC.out _ (OwnsP.below (OwnsP.below (OwnsP.below ho1 hb1) hb2) hb3)).mono ?_
          rintro e w4 ⟨rv, rfl, ho4, hb4⟩
          have hbb : Below w.heap.size w w4 := by (repeat' (first | (with_reducible exact Below.refl _ _) | (with_reducible refine below_step (by assumption) ?_ ?_) | (with_reducible refine Below.alloc ?_ ?_ _) | (with_reducible refine Below.setCell ?_ ?_ _) | (with_reducible refine below_drewN ?_ _) | (with_reducible refine Below.drew ?_) | omega | (simp; omega) | (simp; done)))
          clear ho4 hc1 hf1 hc2 hf2 hc3 hf3 HC
          go_wp2
          (refine wp_region_clq (by kernel_rfl) (by kernel_rfl) ?_; (repeat (go_big_quiet_step (fail))); refine wpQuiet_nil ?_; intro w5 hb5; obtain ⟨hc5, hf5⟩ := bcell hb5; have hz5 := hb5.size; (try simp only [World.size_alloc] at hz5))
          have hb9 := below_step hb5 hbb.size hbb
          go_wp2
          go_ret2
          exact BoolsPost.of HE.out hb9
        · obtain ⟨hl1, hl2⟩ := crR_at h3
          rw [h3] at HC HE
          obtain ⟨a0, cap0, hv0, hf0⟩ := OwnsP.form hown
          subst hv0
          clear hf0 hown
          go_enter Try.func21, Try.ntmps21
          go_wp2_with fail
          (go_at_call 29; refine (c_ecGood _ _ _).mono ?_; rintro e w1 ⟨rfl, hb1⟩; obtain ⟨hc1, hf1⟩ := bcell hb1; have hz1 := hb1.size; (try simp only [World.size_alloc] at hz1); (try (have hy1 : w.heap.size < w1.heap.size := by omega)); (try (have hx1 := Nat.lt_of_succ_le hz1)); (try (have hv1 := Nat.lt_of_succ_le (Nat.le_of_lt hx1))))
          go_wp2_with fail
          (go_at_call 30; refine (H0.out _ (OwnsP.below ho1 hb1)).mono ?_; rintro e w2 ⟨rfl, hb2⟩; obtain ⟨hc2, hf2⟩ := bcell hb2; have hz2 := hb2.size; (try simp only [World.size_alloc] at hz2); (try (have hy2 : w.heap.size < w2.heap.size := by omega)); (try (have hx2 := Nat.lt_of_succ_le hz2)); (try (have hv2 := Nat.lt_of_succ_le (Nat.le_of_lt hx2))); (try (have hy2_1 : w1.heap.size < w2.heap.size := by omega)))
          go_wp2_with fail
          (go_at_call 29; refine (c_ecGood _ _ _).mono ?_; rintro e w3 ⟨rfl, hb3⟩; obtain ⟨hc3, hf3⟩ := bcell hb3; have hz3 := hb3.size; (try simp only [World.size_alloc] at hz3); (try (have hy3 : w.heap.size < w3.heap.size := by omega)); (try (have hx3 := Nat.lt_of_succ_le hz3)); (try (have hv3 := Nat.lt_of_succ_le (Nat.le_of_lt hx3))); (try (have hy3_1 : w1.heap.size < w3.heap.size := by omega)); (try (have hy3_2 : w2.heap.size < w3.heap.size := by omega)))
          go_wp2_with fail
          refine (HC.out _ (OwnsP.below (OwnsP.below (OwnsP.below ho1 hb1) hb2) hb3)).mono ?_
          rintro e w4 ⟨rv, rfl, ho4, hb4⟩
          obtain ⟨a, cap, hv, hf⟩ := OwnsP.form ho4
          rw [hl1] at hv
          subst hv
          obtain ⟨g, rfl, q1, q2, _, hg, _⟩ := hf L.length (by omega)
          have HL := Lib.hid (hl2 (by omega))
          generalize (crR (A, B) L)[L.length] = c at q1 q2 HL
          obtain ⟨X, Y⟩ := c
          have HE2 : Hid (ckB A B L C D = (X == C && Y == D) ∧ ckO A B L C D = true) := by show _ ∧ _; rw [HE.out.1, ← HL.out]; exact ⟨rfl, HE.out.2⟩
          have k1 := (((kR.next hb1).next hb2).next hb3).next hb4
          have hbb : Below w.heap.size w w4 := by (repeat' (first | (with_reducible exact Below.refl _ _) | (with_reducible refine below_step (by assumption) ?_ ?_) | (with_reducible refine Below.alloc ?_ ?_ _) | (with_reducible refine Below.setCell ?_ ?_ _) | (with_reducible refine below_drewN ?_ _) | (with_reducible refine Below.drew ?_) | omega | (simp; omega) | (simp; done)))
          simp only at q1 q2
          have k10 : (w4).cell? ⟨w.heap.size + 1, 0, none⟩ = some (.int .i64 C) := k1.cell 0; have k11 : (w4).cell? ⟨w.heap.size + 1, 1, none⟩ = some (.int .i64 D) := k1.cell 1; have k1l : w.heap.size + 1 < (w4).heap.size := k1.lt
          clear hl1 hl2 hf ho4 hc1 hf1 hc2 hf2 hc3 hf3 HC HE HL
          by_cases e1 : X = C
          · subst e1
            by_cases e2 : Y = D
            · subst e2
              have HE3 : Hid (_ ∧ _) := ⟨HE2.out.1.trans (show (X == X && Y == Y) = true by simp), HE2.out.2⟩
              clear HE2
              go_wp2
              (refine wp_region_clq (by kernel_rfl) (by kernel_rfl) ?_; (repeat (go_big_quiet_step (fail))); refine wpQuiet_nil ?_; intro w5 hb5; obtain ⟨hc5, hf5⟩ := bcell hb5; have hz5 := hb5.size; (try simp only [World.size_alloc] at hz5))
              have hb9 := below_step hb5 hbb.size hbb
              go_wp2
              go_ret2
              exact BoolsPost.of HE3.out hb9
            · have e3 : (Y == D) = false := by simpa using e2
              have HE3 : Hid (_ ∧ _) := ⟨HE2.out.1.trans (show (X == X && Y == D) = false by rw [e3, Bool.and_false]), HE2.out.2⟩
              clear HE2 e2
              go_wp2
              (refine wp_region_clq (by kernel_rfl) (by kernel_rfl) ?_; (repeat (go_big_quiet_step (fail))); refine wpQuiet_nil ?_; intro w5 hb5; obtain ⟨hc5, hf5⟩ := bcell hb5; have hz5 := hb5.size; (try simp only [World.size_alloc] at hz5))
              have hb9 := below_step hb5 hbb.size hbb
              go_wp2
              go_ret2
              exact BoolsPost.of HE3.out hb9
          · have e3 : (X == C) = false := by simpa using e1
            have HE3 : Hid (_ ∧ _) := ⟨HE2.out.1.trans (show (X == C && Y == D) = false by rw [e3, Bool.false_and]), HE2.out.2⟩
            clear HE2 e1
            go_wp2
            (refine wp_region_clq (by kernel_rfl) (by kernel_rfl) ?_; (repeat (go_big_quiet_step (fail))); refine wpQuiet_nil ?_; intro w5 hb5; obtain ⟨hc5, hf5⟩ := bcell hb5; have hz5 := hb5.size; (try simp only [World.size_alloc] at hz5))
            have hb9 := below_step hb5 hbb.size hbb
            go_wp2
            go_ret2
            exact BoolsPost.of HE3.out hb9
set_option maxHeartbeats 2000000 in
theorem c_iCurvesOfLog (base : Nat) (v : Value) (A B : Int) (L : List (Int × Int)) (hL : L.length ≤ 100000000) (w : World) (hown : OwnsS w base v L) :
    Calls Try.prog 8 #[.agg #[.int .i64 A, .int .i64 B], v] w (ListPost 25 w (ccL (A, B) L) (ccO (A, B) L)) := by
  have H0 := Lib.hid (c_isLog base v L hL)
  have ho1 := OwnsP.below hown ((Below.refl w.heap.size w).alloc (Nat.le_refl _) (.cells #[.int .i64 A, .int .i64 B] 25))
  cases h1 : curveB A B
  · have HE := Lib.hid (cc_no1 (L := L) h1)
    go_enter Try.func8, Try.ntmps8
    go_wp2_with ((go_at_call 26; refine (c_isCurve _ _ _).mono ?_; rintro e w1 ⟨rfl, hb1⟩; obtain ⟨hc1, hf1⟩ := bcell hb1; have hz1 := hb1.size; (try simp only [World.size_alloc] at hz1); (try (have hy1 : w.heap.size < w1.heap.size := by omega)); (try (have hx1 := Nat.lt_of_succ_le hz1)); (try (have hv1 := Nat.lt_of_succ_le (Nat.le_of_lt hx1)))))
    go_ret2
    exact ListPost.nil' HE.out (by (repeat' (first | (with_reducible exact Below.refl _ _) | (with_reducible refine below_step (by assumption) ?_ ?_) | (with_reducible refine Below.alloc ?_ ?_ _) | (with_reducible refine Below.setCell ?_ ?_ _) | (with_reducible refine below_drewN ?_ _) | (with_reducible refine Below.drew ?_) | omega | (simp; omega) | (simp; done))))
  · cases h2 : logB L
    · have HE := Lib.hid (cc_no2 (A := A) (B := B) h2)
      rw [h2] at H0
      go_enter Try.func8, Try.ntmps8
      go_wp2_with fail
      (go_at_call 26; refine (c_isCurve _ _ _).mono ?_; rintro e w1 ⟨rfl, hb1⟩; obtain ⟨hc1, hf1⟩ := bcell hb1; have hz1 := hb1.size; (try simp only [World.size_alloc] at hz1); (try (have hy1 : w.heap.size < w1.heap.size := by omega)); (try (have hx1 := Nat.lt_of_succ_le hz1)); (try (have hv1 := Nat.lt_of_succ_le (Nat.le_of_lt hx1))))
      go_wp2_with ((go_at_call 27; refine (H0.out _ (OwnsP.below ho1 hb1)).mono ?_; rintro e w2 ⟨rfl, hb2⟩; obtain ⟨hc2, hf2⟩ := bcell hb2; have hz2 := hb2.size; (try simp only [World.size_alloc] at hz2); (try (have hy2 : w.heap.size < w2.heap.size := by omega)); (try (have hx2 := Nat.lt_of_succ_le hz2)); (try (have hv2 := Nat.lt_of_succ_le (Nat.le_of_lt hx2))); (try (have hy2_1 : w1.heap.size < w2.heap.size := by omega))))
      go_ret2
      exact ListPost.nil' HE.out (by (repeat' (first | (with_reducible exact Below.refl _ _) | (with_reducible refine below_step (by assumption) ?_ ?_) | (with_reducible refine Below.alloc ?_ ?_ _) | (with_reducible refine Below.setCell ?_ ?_ _) | (with_reducible refine below_drewN ?_ _) | (with_reducible refine Below.drew ?_) | omega | (simp; omega) | (simp; done))))
    · have HE := Lib.hid (cc_of h1 h2)
      have HC : Hid (∀ w u, _) := fun w u => c_curvesOfLog base v A B L h1 h2 w u
      rw [h2] at H0
      clear h2
      go_enter Try.func8, Try.ntmps8
      go_wp2_with fail
      (go_at_call 26; refine (c_isCurve _ _ _).mono ?_; rintro e w1 ⟨rfl, hb1⟩; obtain ⟨hc1, hf1⟩ := bcell hb1; have hz1 := hb1.size; (try simp only [World.size_alloc] at hz1); (try (have hy1 : w.heap.size < w1.heap.size := by omega)); (try (have hx1 := Nat.lt_of_succ_le hz1)); (try (have hv1 := Nat.lt_of_succ_le (Nat.le_of_lt hx1))))
      go_wp2_with fail
      (go_at_call 27; refine (H0.out _ (OwnsP.below ho1 hb1)).mono ?_; rintro e w2 ⟨rfl, hb2⟩; obtain ⟨hc2, hf2⟩ := bcell hb2; have hz2 := hb2.size; (try simp only [World.size_alloc] at hz2); (try (have hy2 : w.heap.size < w2.heap.size := by omega)); (try (have hx2 := Nat.lt_of_succ_le hz2)); (try (have hv2 := Nat.lt_of_succ_le (Nat.le_of_lt hx2))); (try (have hy2_1 : w1.heap.size < w2.heap.size := by omega)))
      go_wp2_with fail
      refine (HC.out _ (OwnsP.below (OwnsP.below ho1 hb1) hb2)).mono ?_
      rintro e w3 ⟨rv, rfl, ho3, hb3⟩
      go_wp2
      go_ret2
      have hs1 := hb1.size
      simp only [World.size_alloc] at hs1
      exact ListPost.of HE.out (ho3.le (by omega)) (by (repeat' (first | (with_reducible exact Below.refl _ _) | (with_reducible refine below_step (by assumption) ?_ ?_) | (with_reducible refine Below.alloc ?_ ?_ _) | (with_reducible refine Below.setCell ?_ ?_ _) | (with_reducible refine below_drewN ?_ _) | (with_reducible refine Below.drew ?_) | omega | (simp; omega) | (simp; done))))
set_option maxHeartbeats 2000000 in
theorem c_iReplayLog (base : Nat) (v : Value) (A B : Int) (L : List (Int × Int)) (hL : L.length ≤ 100000000) (w : World) (hown : OwnsS w base v L) :
    Calls Try.prog 6 #[.agg #[.int .i64 A, .int .i64 B], v] w (PairPost w (rpE A B L) (ccO (A, B) L)) := by
  have H0 := Lib.hid (c_isLog base v L hL)
  have hAA : Below w.heap.size w ((w.alloc (.cells #[.int .i64 A, .int .i64 B] 25)).alloc (.cells #[.int .i64 0, .int .i64 0] 25)) := by (repeat' (first | (with_reducible exact Below.refl _ _) | (with_reducible refine below_step (by assumption) ?_ ?_) | (with_reducible refine Below.alloc ?_ ?_ _) | (with_reducible refine Below.setCell ?_ ?_ _) | (with_reducible refine below_drewN ?_ _) | (with_reducible refine Below.drew ?_) | omega | (simp; omega) | (simp; done)))
  have kR := Blk.new (w.alloc (.cells #[.int .i64 A, .int .i64 B] 25)) #[.int .i64 0, .int .i64 0] 25
  have hAs := hAA.size
  have ho1 := OwnsP.below hown ((Below.refl w.heap.size w).alloc (Nat.le_refl _) (.cells #[.int .i64 A, .int .i64 B] 25))
  have ho1 := OwnsP.below ho1 ((Below.refl _ _).alloc (Nat.le_refl _) (.cells #[.int .i64 0, .int .i64 0] 25))
  simp only [World.size_alloc] at kR
  cases h1 : curveB A B
  · have HE := Lib.hid (cc_no1 (L := L) h1)
    go_enter Try.func6, Try.ntmps6
    go_wp2_with fail
    (go_at_call 26; refine (c_isCurve _ _ _).mono ?_; rintro e w1 ⟨rfl, hb1⟩; obtain ⟨hc1, hf1⟩ := bcell hb1; have hz1 := hb1.size; (try simp only [World.size_alloc] at hz1); (try (have hy1 : w.heap.size < w1.heap.size := by omega)); (try (have hx1 := Nat.lt_of_succ_le hz1)); (try (have hv1 := Nat.lt_of_succ_le (Nat.le_of_lt hx1))))
    have k1 := kR.next hb1
    have k10 : (w1).cell? ⟨w.heap.size + 1, 0, none⟩ = some (.int .i64 0) := k1.cell 0; have k11 : (w1).cell? ⟨w.heap.size + 1, 1, none⟩ = some (.int .i64 0) := k1.cell 1; have k1f0 : (w1).frozen? ⟨w.heap.size + 1, 0, none⟩ = false := k1.frozen 0; have k1f1 : (w1).frozen? ⟨w.heap.size + 1, 1, none⟩ = false := k1.frozen 1; have k1l : w.heap.size + 1 < (w1).heap.size := k1.lt
    go_wp2
    refine bodyPost_ret (v := .tuple #[.agg #[.int .i64 0, .int .i64 0], .bool false]) (by simp [results, Try.results6, go_sem, k10, k11]) rfl ?_
    exact PairPost.no HE.out.2 (by (repeat' (first | (with_reducible exact Below.refl _ _) | (with_reducible refine below_step (by assumption) ?_ ?_) | (with_reducible refine Below.alloc ?_ ?_ _) | (with_reducible refine Below.setCell ?_ ?_ _) | (with_reducible refine below_drewN ?_ _) | (with_reducible refine Below.drew ?_) | omega | (simp; omega) | (simp; done))))
  · cases h2 : logB L
    · have HE := Lib.hid (cc_no2 (A := A) (B := B) h2)
      rw [h2] at H0
      go_enter Try.func6, Try.ntmps6
      go_wp2_with fail
      (go_at_call 26; refine (c_isCurve _ _ _).mono ?_; rintro e w1 ⟨rfl, hb1⟩; obtain ⟨hc1, hf1⟩ := bcell hb1; have hz1 := hb1.size; (try simp only [World.size_alloc] at hz1); (try (have hy1 : w.heap.size < w1.heap.size := by omega)); (try (have hx1 := Nat.lt_of_succ_le hz1)); (try (have hv1 := Nat.lt_of_succ_le (Nat.le_of_lt hx1))))
      go_wp2_with fail
      (go_at_call 27; refine (H0.out _ (OwnsP.below ho1 hb1)).mono ?_; rintro e w2 ⟨rfl, hb2⟩; obtain ⟨hc2, hf2⟩ := bcell hb2; have hz2 := hb2.size; (try simp only [World.size_alloc] at hz2); (try (have hy2 : w.heap.size < w2.heap.size := by omega)); (try (have hx2 := Nat.lt_of_succ_le hz2)); (try (have hv2 := Nat.lt_of_succ_le (Nat.le_of_lt hx2))); (try (have hy2_1 : w1.heap.size < w2.heap.size := by omega)))
      have k1 := (kR.next hb1).next hb2
      have k10 : (w2).cell? ⟨w.heap.size + 1, 0, none⟩ = some (.int .i64 0) := k1.cell 0; have k11 : (w2).cell? ⟨w.heap.size + 1, 1, none⟩ = some (.int .i64 0) := k1.cell 1; have k1f0 : (w2).frozen? ⟨w.heap.size + 1, 0, none⟩ = false := k1.frozen 0; have k1f1 : (w2).frozen? ⟨w.heap.size + 1, 1, none⟩ = false := k1.frozen 1; have k1l : w.heap.size + 1 < (w2).heap.size := k1.lt
      go_wp2
      refine bodyPost_ret (v := .tuple #[.agg #[.int .i64 0, .int .i64 0], .bool false]) (by simp [results, Try.results6, go_sem, k10, k11]) rfl ?_
      exact PairPost.no HE.out.2 (by (repeat' (first | (with_reducible exact Below.refl _ _) | (with_reducible refine below_step (by assumption) ?_ ?_) | (with_reducible refine Below.alloc ?_ ?_ _) | (with_reducible refine Below.setCell ?_ ?_ _) | (with_reducible refine below_drewN ?_ _) | (with_reducible refine Below.drew ?_) | omega | (simp; omega) | (simp; done))))
    · have HE := Lib.hid (cc_of h1 h2)
      have HC : Hid (∀ w u, _) := fun w u => c_curvesOfLog base v A B L h1 h2 w u
      rw [h2] at H0
      obtain ⟨hl, _⟩ := logB_of h2
      clear h2
      cases h3 : crO (A, B) L
      · rw [h3] at HC HE
        go_enter Try.func6, Try.ntmps6
        go_wp2_with fail
        (go_at_call 26; refine (c_isCurve _ _ _).mono ?_; rintro e w1 ⟨rfl, hb1⟩; obtain ⟨hc1, hf1⟩ := bcell hb1; have hz1 := hb1.size; (try simp only [World.size_alloc] at hz1); (try (have hy1 : w.heap.size < w1.heap.size := by omega)); (try (have hx1 := Nat.lt_of_succ_le hz1)); (try (have hv1 := Nat.lt_of_succ_le (Nat.le_of_lt hx1))))
        go_wp2_with fail
        (go_at_call 27; refine (H0.out _ (OwnsP.below ho1 hb1)).mono ?_; rintro e w2 ⟨rfl, hb2⟩; obtain ⟨hc2, hf2⟩ := bcell hb2; have hz2 := hb2.size; (try simp only [World.size_alloc] at hz2); (try (have hy2 : w.heap.size < w2.heap.size := by omega)); (try (have hx2 := Nat.lt_of_succ_le hz2)); (try (have hv2 := Nat.lt_of_succ_le (Nat.le_of_lt hx2))); (try (have hy2_1 : w1.heap.size < w2.heap.size := by omega)))
        go_wp2_with fail
        refine (HC.out _ (OwnsP.below (OwnsP.below ho1 hb1) hb2)).mono ?_
        rintro e w3 ⟨rv, rfl, ho3, hb3⟩
        have k1 := ((kR.next hb1).next hb2).next hb3
        have k10 : (w3).cell? ⟨w.heap.size + 1, 0, none⟩ = some (.int .i64 0) := k1.cell 0; have k11 : (w3).cell? ⟨w.heap.size + 1, 1, none⟩ = some (.int .i64 0) := k1.cell 1; have k1f0 : (w3).frozen? ⟨w.heap.size + 1, 0, none⟩ = false := k1.frozen 0; have k1f1 : (w3).frozen? ⟨w.heap.size + 1, 1, none⟩ = false := k1.frozen 1; have k1l : w.heap.size + 1 < (w3).heap.size := k1.lt
        go_wp2
        refine bodyPost_ret (v := .tuple #[.agg #[.int .i64 0, .int .i64 0], .bool false]) (by simp [results, Try.results6, go_sem, k10, k11]) rfl ?_
        exact PairPost.no HE.out.2 (by (repeat' (first | (with_reducible exact Below.refl _ _) | (with_reducible refine below_step (by assumption) ?_ ?_) | (with_reducible refine Below.alloc ?_ ?_ _) | (with_reducible refine Below.setCell ?_ ?_ _) | (with_reducible refine below_drewN ?_ _) | (with_reducible refine Below.drew ?_) | omega | (simp; omega) | (simp; done))))
      · obtain ⟨hl1, hl2⟩ := crR_at h3
        rw [h3] at HC HE
        obtain ⟨a0, cap0, hv0, hf0⟩ := OwnsP.form hown
        subst hv0
        clear hf0 hown
        go_enter Try.func6, Try.ntmps6
        go_wp2_with fail
        (go_at_call 26; refine (c_isCurve _ _ _).mono ?_; rintro e w1 ⟨rfl, hb1⟩; obtain ⟨hc1, hf1⟩ := bcell hb1; have hz1 := hb1.size; (try simp only [World.size_alloc] at hz1); (try (have hy1 : w.heap.size < w1.heap.size := by omega)); (try (have hx1 := Nat.lt_of_succ_le hz1)); (try (have hv1 := Nat.lt_of_succ_le (Nat.le_of_lt hx1))))
        go_wp2_with fail
        (go_at_call 27; refine (H0.out _ (OwnsP.below ho1 hb1)).mono ?_; rintro e w2 ⟨rfl, hb2⟩; obtain ⟨hc2, hf2⟩ := bcell hb2; have hz2 := hb2.size; (try simp only [World.size_alloc] at hz2); (try (have hy2 : w.heap.size < w2.heap.size := by omega)); (try (have hx2 := Nat.lt_of_succ_le hz2)); (try (have hv2 := Nat.lt_of_succ_le (Nat.le_of_lt hx2))); (try (have hy2_1 : w1.heap.size < w2.heap.size := by omega)))
        go_wp2_with fail
        refine (HC.out _ (OwnsP.below (OwnsP.below ho1 hb1) hb2)).mono ?_
        rintro e w3 ⟨rv, rfl, ho3, hb3⟩
        obtain ⟨a, cap, hv, hf⟩ := OwnsP.form ho3
        rw [hl1] at hv
        subst hv
        obtain ⟨g, rfl, q1, q2, _, hg, _⟩ := hf L.length (by omega)
        have HL := Lib.hid (hl2 (by omega))
        generalize (crR (A, B) L)[L.length] = c at q1 q2 HL
        obtain ⟨X, Y⟩ := c
        have k1 := ((kR.next hb1).next hb2).next hb3
        have hbb : Below w.heap.size w w3 := by (repeat' (first | (with_reducible exact Below.refl _ _) | (with_reducible refine below_step (by assumption) ?_ ?_) | (with_reducible refine Below.alloc ?_ ?_ _) | (with_reducible refine Below.setCell ?_ ?_ _) | (with_reducible refine below_drewN ?_ _) | (with_reducible refine Below.drew ?_) | omega | (simp; omega) | (simp; done)))
        have k10 : (w3).cell? ⟨w.heap.size + 1, 0, none⟩ = some (.int .i64 0) := k1.cell 0; have k11 : (w3).cell? ⟨w.heap.size + 1, 1, none⟩ = some (.int .i64 0) := k1.cell 1; have k1f0 : (w3).frozen? ⟨w.heap.size + 1, 0, none⟩ = false := k1.frozen 0; have k1f1 : (w3).frozen? ⟨w.heap.size + 1, 1, none⟩ = false := k1.frozen 1; have k1l : w.heap.size + 1 < (w3).heap.size := k1.lt
        clear hl1 hl2 hf ho3
        go_wp2
        refine bodyPost_ret (v := .tuple #[.agg #[.int .i64 X, .int .i64 Y], .bool true]) (by simp [results, Try.results6, go_sem, k10, k11]) rfl ?_
        exact PairPost.yes HE.out.2 HL.out.symm (by (repeat' (first | (with_reducible exact Below.refl _ _) | (with_reducible refine below_step (by assumption) ?_ ?_) | (with_reducible refine Below.alloc ?_ ?_ _) | (with_reducible refine Below.setCell ?_ ?_ _) | (with_reducible refine below_drewN ?_ _) | (with_reducible refine Below.drew ?_) | omega | (simp; omega) | (simp; done))))
set_option maxHeartbeats 4000000 in
theorem c_iCheckLog (base : Nat) (v : Value) (A B : Int) (L : List (Int × Int)) (C D : Int) (hL : L.length ≤ 100000000) (w : World) (hown : OwnsS w base v L) :
    Calls Try.prog 11 #[.agg #[.int .i64 A, .int .i64 B], v, .agg #[.int .i64 C, .int .i64 D]] w (BoolsPost w (ckB A B L C D) (ckO A B L C D)) := by
  have H0 := Lib.hid (c_isLog base v L hL)
  have hAA : Below w.heap.size w ((w.alloc (.cells #[.int .i64 A, .int .i64 B] 25)).alloc (.cells #[.int .i64 C, .int .i64 D] 25)) := by (repeat' (first | (with_reducible exact Below.refl _ _) | (with_reducible refine below_step (by assumption) ?_ ?_) | (with_reducible refine Below.alloc ?_ ?_ _) | (with_reducible refine Below.setCell ?_ ?_ _) | (with_reducible refine below_drewN ?_ _) | (with_reducible refine Below.drew ?_) | omega | (simp; omega) | (simp; done)))
  have kR := Blk.new (w.alloc (.cells #[.int .i64 A, .int .i64 B] 25)) #[.int .i64 C, .int .i64 D] 25
  have hAs := hAA.size
  have ho1 := OwnsP.below hown ((Below.refl w.heap.size w).alloc (Nat.le_refl _) (.cells #[.int .i64 A, .int .i64 B] 25))
  have ho1 := OwnsP.below ho1 ((Below.refl _ _).alloc (Nat.le_refl _) (.cells #[.int .i64 C, .int .i64 D] 25))
  simp only [World.size_alloc] at kR
  cases h1 : curveB A B
  · have HE := Lib.hid (ck_no (L := L) (C := C) (D := D) (.inl h1))
    go_enter Try.func11, Try.ntmps11
    go_wp2_with fail
    (go_at_call 26; refine (c_isCurve _ _ _).mono ?_; rintro e w1 ⟨rfl, hb1⟩; obtain ⟨hc1, hf1⟩ := bcell hb1; have hz1 := hb1.size; (try simp only [World.size_alloc] at hz1); (try (have hy1 : w.heap.size < w1.heap.size := by omega)); (try (have hx1 := Nat.lt_of_succ_le hz1)); (try (have hv1 := Nat.lt_of_succ_le (Nat.le_of_lt hx1))))
    go_wp2
    go_ret2
    exact BoolsPost.of HE.out (by (repeat' (first | (with_reducible exact Below.refl _ _) | (with_reducible refine below_step (by assumption) ?_ ?_) | (with_reducible refine Below.alloc ?_ ?_ _) | (with_reducible refine Below.setCell ?_ ?_ _) | (with_reducible refine below_drewN ?_ _) | (with_reducible refine Below.drew ?_) | omega | (simp; omega) | (simp; done))))
  · cases h2 : logB L
    · have HE := Lib.hid (ck_no (A := A) (B := B) (C := C) (D := D) (.inr (.inl h2)))
      rw [h2] at H0
      go_enter Try.func11, Try.ntmps11
      go_wp2_with fail
      (go_at_call 26; refine (c_isCurve _ _ _).mono ?_; rintro e w1 ⟨rfl, hb1⟩; obtain ⟨hc1, hf1⟩ := bcell hb1; have hz1 := hb1.size; (try simp only [World.size_alloc] at hz1); (try (have hy1 : w.heap.size < w1.heap.size := by omega)); (try (have hx1 := Nat.lt_of_succ_le hz1)); (try (have hv1 := Nat.lt_of_succ_le (Nat.le_of_lt hx1))))
      go_wp2_with fail
      (go_at_call 27; refine (H0.out _ (OwnsP.below ho1 hb1)).mono ?_; rintro e w2 ⟨rfl, hb2⟩; obtain ⟨hc2, hf2⟩ := bcell hb2; have hz2 := hb2.size; (try simp only [World.size_alloc] at hz2); (try (have hy2 : w.heap.size < w2.heap.size := by omega)); (try (have hx2 := Nat.lt_of_succ_le hz2)); (try (have hv2 := Nat.lt_of_succ_le (Nat.le_of_lt hx2))); (try (have hy2_1 : w1.heap.size < w2.heap.size := by omega)))
      go_wp2
      go_ret2
      exact BoolsPost.of HE.out (by (repeat' (first | (with_reducible exact Below.refl _ _) | (with_reducible refine below_step (by assumption) ?_ ?_) | (with_reducible refine Below.alloc ?_ ?_ _) | (with_reducible refine Below.setCell ?_ ?_ _) | (with_reducible refine below_drewN ?_ _) | (with_reducible refine Below.drew ?_) | omega | (simp; omega) | (simp; done))))
    · cases h4 : curveB C D
      · have HE := Lib.hid (ck_no (A := A) (B := B) (L := L) (.inr (.inr h4)))
        rw [h2] at H0
        clear h2
        go_enter Try.func11, Try.ntmps11
        go_wp2_with fail
        (go_at_call 26; refine (c_isCurve _ _ _).mono ?_; rintro e w1 ⟨rfl, hb1⟩; obtain ⟨hc1, hf1⟩ := bcell hb1; have hz1 := hb1.size; (try simp only [World.size_alloc] at hz1); (try (have hy1 : w.heap.size < w1.heap.size := by omega)); (try (have hx1 := Nat.lt_of_succ_le hz1)); (try (have hv1 := Nat.lt_of_succ_le (Nat.le_of_lt hx1))))
        go_wp2_with fail
        (go_at_call 27; refine (H0.out _ (OwnsP.below ho1 hb1)).mono ?_; rintro e w2 ⟨rfl, hb2⟩; obtain ⟨hc2, hf2⟩ := bcell hb2; have hz2 := hb2.size; (try simp only [World.size_alloc] at hz2); (try (have hy2 : w.heap.size < w2.heap.size := by omega)); (try (have hx2 := Nat.lt_of_succ_le hz2)); (try (have hv2 := Nat.lt_of_succ_le (Nat.le_of_lt hx2))); (try (have hy2_1 : w1.heap.size < w2.heap.size := by omega)))
        go_wp2_with fail
        (go_at_call 26; refine (c_isCurve _ _ _).mono ?_; rintro e w3 ⟨rfl, hb3⟩; obtain ⟨hc3, hf3⟩ := bcell hb3; have hz3 := hb3.size; (try simp only [World.size_alloc] at hz3); (try (have hy3 : w.heap.size < w3.heap.size := by omega)); (try (have hx3 := Nat.lt_of_succ_le hz3)); (try (have hv3 := Nat.lt_of_succ_le (Nat.le_of_lt hx3))); (try (have hy3_1 : w1.heap.size < w3.heap.size := by omega)); (try (have hy3_2 : w2.heap.size < w3.heap.size := by omega)))
        go_wp2
        go_ret2
        exact BoolsPost.of HE.out (by (repeat' (first | (with_reducible exact Below.refl _ _) | (with_reducible refine below_step (by assumption) ?_ ?_) | (with_reducible refine Below.alloc ?_ ?_ _) | (with_reducible refine Below.setCell ?_ ?_ _) | (with_reducible refine below_drewN ?_ _) | (with_reducible refine Below.drew ?_) | omega | (simp; omega) | (simp; done))))
      · have HC : Hid (∀ w u, _) := fun w u => c_curvesOfLog base v A B L h1 h2 w u
        have HE := Lib.hid (ck_yes h1 h2 h4)
        rw [h2] at H0
        obtain ⟨hl, _⟩ := logB_of h2
        clear h2
        cases h3 : crO (A, B) L
        · rw [h3] at HC HE
          go_enter Try.func11, Try.ntmps11
          go_wp2_with fail
          (go_at_call 26; refine (c_isCurve _ _ _).mono ?_; rintro e w1 ⟨rfl, hb1⟩; obtain ⟨hc1, hf1⟩ := bcell hb1; have hz1 := hb1.size; (try simp only [World.size_alloc] at hz1); (try (have hy1 : w.heap.size < w1.heap.size := by omega)); (try (have hx1 := Nat.lt_of_succ_le hz1)); (try (have hv1 := Nat.lt_of_succ_le (Nat.le_of_lt hx1))))
          go_wp2_with fail
          (go_at_call 27; refine (H0.out _ (OwnsP.below ho1 hb1)).mono ?_; rintro e w2 ⟨rfl, hb2⟩; obtain ⟨hc2, hf2⟩ := bcell hb2; have hz2 := hb2.size; (try simp only [World.size_alloc] at hz2); (try (have hy2 : w.heap.size < w2.heap.size := by omega)); (try (have hx2 := Nat.lt_of_succ_le hz2)); (try (have hv2 := Nat.lt_of_succ_le (Nat.le_of_lt hx2))); (try (have hy2_1 : w1.heap.size < w2.heap.size := by omega)))
          go_wp2_with fail
          (go_at_call 26; refine (c_isCurve _ _ _).mono ?_; rintro e w3 ⟨rfl, hb3⟩; obtain ⟨hc3, hf3⟩ := bcell hb3; have hz3 := hb3.size; (try simp only [World.size_alloc] at hz3); (try (have hy3 : w.heap.size < w3.heap.size := by omega)); (try (have hx3 := Nat.lt_of_succ_le hz3)); (try (have hv3 := Nat.lt_of_succ_le (Nat.le_of_lt hx3))); (try (have hy3_1 : w1.heap.size < w3.heap.size := by omega)); (try (have hy3_2 : w2.heap.size < w3.heap.size := by omega)))
          go_wp2_with fail
          refine (HC.out _ (OwnsP.below (OwnsP.below (OwnsP.below ho1 hb1) hb2) hb3)).mono ?_
          rintro e w4 ⟨rv, rfl, ho4, hb4⟩
          have hbb : Below w.heap.size w w4 := by (repeat' (first | (with_reducible exact Below.refl _ _) | (with_reducible refine below_step (by assumption) ?_ ?_) | (with_reducible refine Below.alloc ?_ ?_ _) | (with_reducible refine Below.setCell ?_ ?_ _) | (with_reducible refine below_drewN ?_ _) | (with_reducible refine Below.drew ?_) | omega | (simp; omega) | (simp; done)))
          clear ho4 hc1 hf1 hc2 hf2 hc3 hf3 HC
          go_wp2
          (refine wp_region_clq (by kernel_rfl) (by kernel_rfl) ?_; (repeat (go_big_quiet_step (fail))); refine wpQuiet_nil ?_; intro w5 hb5; obtain ⟨hc5, hf5⟩ := bcell hb5; have hz5 := hb5.size; (try simp only [World.size_alloc] at hz5))
          have hb9 := below_step hb5 hbb.size hbb
          go_wp2
          go_ret2
          exact BoolsPost.of HE.out hb9
        · obtain ⟨hl1, hl2⟩ := crR_at h3
          rw [h3] at HC HE
          obtain ⟨a0, cap0, hv0, hf0⟩ := OwnsP.form hown
          subst hv0
          clear hf0 hown
          go_enter Try.func11, Try.ntmps11
          go_wp2_with fail
          (go_at_call 26; refine (c_isCurve _ _ _).mono ?_; rintro e w1 ⟨rfl, hb1⟩; obtain ⟨hc1, hf1⟩ := bcell hb1; have hz1 := hb1.size; (try simp only [World.size_alloc] at hz1); (try (have hy1 : w.heap.size < w1.heap.size := by omega)); (try (have hx1 := Nat.lt_of_succ_le hz1)); (try (have hv1 := Nat.lt_of_succ_le (Nat.le_of_lt hx1))))
          go_wp2_with fail
          (go_at_call 27; refine (H0.out _ (OwnsP.below ho1 hb1)).mono ?_; rintro e w2 ⟨rfl, hb2⟩; obtain ⟨hc2, hf2⟩ := bcell hb2; have hz2 := hb2.size; (try simp only [World.size_alloc] at hz2); (try (have hy2 : w.heap.size < w2.heap.size := by omega)); (try (have hx2 := Nat.lt_of_succ_le hz2)); (try (have hv2 := Nat.lt_of_succ_le (Nat.le_of_lt hx2))); (try (have hy2_1 : w1.heap.size < w2.heap.size := by omega)))
          go_wp2_with fail
          (go_at_call 26; refine (c_isCurve _ _ _).mono ?_; rintro e w3 ⟨rfl, hb3⟩; obtain ⟨hc3, hf3⟩ := bcell hb3; have hz3 := hb3.size; (try simp only [World.size_alloc] at hz3); (try (have hy3 : w.heap.size < w3.heap.size := by omega)); (try (have hx3 := Nat.lt_of_succ_le hz3)); (try (have hv3 := Nat.lt_of_succ_le (Nat.le_of_lt hx3))); (try (have hy3_1 : w1.heap.size < w3.heap.size := by omega)); (try (have hy3_2 : w2.heap.size < w3.heap.size := by omega)))
          go_wp2_with fail
          refine (HC.out _ (OwnsP.below (OwnsP.below (OwnsP.below ho1 hb1) hb2) hb3)).mono ?_
          rintro e w4 ⟨rv, rfl, ho4, hb4⟩
          obtain ⟨a, cap, hv, hf⟩ := OwnsP.form ho4
          rw [hl1] at hv
          subst hv
          obtain ⟨g, rfl, q1, q2, _, hg, _⟩ := hf L.length (by omega)
          have HL := Lib.hid (hl2 (by omega))
          generalize (crR (A, B) L)[L.length] = c at q1 q2 HL
          obtain ⟨X, Y⟩ := c
          have HE2 : Hid (ckB A B L C D = (X == C && Y == D) ∧ ckO A B L C D = true) := by show _ ∧ _; rw [HE.out.1, ← HL.out]; exact ⟨rfl, HE.out.2⟩
          have k1 := (((kR.next hb1).next hb2).next hb3).next hb4
          have hbb : Below w.heap.size w w4 := by (repeat' (first | (with_reducible exact Below.refl _ _) | (with_reducible refine below_step (by assumption) ?_ ?_) | (with_reducible refine Below.alloc ?_ ?_ _) | (with_reducible refine Below.setCell ?_ ?_ _) | (with_reducible refine below_drewN ?_ _) | (with_reducible refine Below.drew ?_) | omega | (simp; omega) | (simp; done)))
          simp only at q1 q2
          have k10 : (w4).cell? ⟨w.heap.size + 1, 0, none⟩ = some (.int .i64 C) := k1.cell 0; have k11 : (w4).cell? ⟨w.heap.size + 1, 1, none⟩ = some (.int .i64 D) := k1.cell 1; have k1l : w.heap.size + 1 < (w4).heap.size := k1.lt
          clear hl1 hl2 hf ho4 hc1 hf1 hc2 hf2 hc3 hf3 HC HE HL
          by_cases e1 : X = C
          · subst e1
            by_cases e2 : Y = D
            · subst e2
              have HE3 : Hid (_ ∧ _) := ⟨HE2.out.1.trans (show (X == X && Y == Y) = true by simp), HE2.out.2⟩
              clear HE2
              go_wp2
              (refine wp_region_clq (by kernel_rfl) (by kernel_rfl) ?_; (repeat (go_big_quiet_step (fail))); refine wpQuiet_nil ?_; intro w5 hb5; obtain ⟨hc5, hf5⟩ := bcell hb5; have hz5 := hb5.size; (try simp only [World.size_alloc] at hz5))
              have hb9 := below_step hb5 hbb.size hbb
              go_wp2
              go_ret2
              exact BoolsPost.of HE3.out hb9
            · have e3 : (Y == D) = false := by simpa using e2
              have HE3 : Hid (_ ∧ _) := ⟨HE2.out.1.trans (show (X == X && Y == D) = false by rw [e3, Bool.and_false]), HE2.out.2⟩
              clear HE2 e2
              go_wp2
              (refine wp_region_clq (by kernel_rfl) (by kernel_rfl) ?_; (repeat (go_big_quiet_step (fail))); refine wpQuiet_nil ?_; intro w5 hb5; obtain ⟨hc5, hf5⟩ := bcell hb5; have hz5 := hb5.size; (try simp only [World.size_alloc] at hz5))
              have hb9 := below_step hb5 hbb.size hbb
              go_wp2
              go_ret2
              exact BoolsPost.of HE3.out hb9
          · have e3 : (X == C) = false := by simpa using e1
            have HE3 : Hid (_ ∧ _) := ⟨HE2.out.1.trans (show (X == C && Y == D) = false by rw [e3, Bool.false_and]), HE2.out.2⟩
            clear HE2 e1
            go_wp2
            (refine wp_region_clq (by kernel_rfl) (by kernel_rfl) ?_; (repeat (go_big_quiet_step (fail))); refine wpQuiet_nil ?_; intro w5 hb5; obtain ⟨hc5, hf5⟩ := bcell hb5; have hz5 := hb5.size; (try simp only [World.size_alloc] at hz5))
            have hb9 := below_step hb5 hbb.size hbb
            go_wp2
            go_ret2
            exact BoolsPost.of HE3.out hb9
end Go.Proofs.Ytpnpidepkfnofaa
