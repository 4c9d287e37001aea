/- Walks: the number of classes, both functions; the class of a curve; the laws. -/
import Derived.Test.YtilgeeaobdebhaaClf
import Derived.Test.YtilgeeaobdebhaaStepN
namespace Go.Proofs.Ytilgeeaobdebhaa
open Go.RowKit

/-! plain -/
def ltc (x y : Int × Int) : Bool := decide (x.1 < y.1) || (x.1 == y.1 && decide (x.2 < y.2))
theorem ltc_iff {x y : Int × Int} : ltc x y = true ↔ ltP x y := by unfold ltc ltP; simp
def firTo (p A B : Int) (k : Nat) : Bool := (List.range k).all fun i => !ltc (scAt p A B i) (A, B)
theorem firTo_succ (p A B : Int) (k : Nat) : firTo p A B (k + 1) = (firTo p A B k && !ltc (scAt p A B k) (A, B)) := by
  unfold firTo; rw [List.range_succ, List.all_append]; simp
def firB (p A B : Int) : Bool := firTo p A B (p.toNat - 1)
theorem firTo_no {p A B : Int} {k n : Nat} (hk : k < n) (h : ltc (scAt p A B k) (A, B) = true) : firTo p A B n = false := by
  rw [Bool.eq_false_iff]
  intro h9
  unfold firTo at h9
  rw [List.all_eq_true] at h9
  have := h9 k (List.mem_range.2 hk)
  rw [h] at this
  cases this
theorem cl_pos {p A B : Int} (hp : 5 ≤ p) : 0 < (clI p A B).length := by
  have h := cpTo_pos (stS (scL p A B (p.toNat - 1))) (stS (scL p A B (p.toNat - 1))).length (by rw [stS_len, scL_len]; omega)
  exact h
theorem fir_eq {p A B : Int} (hp : 5 ≤ p) (hA : 0 ≤ A ∧ A ≤ p - 1) (hB : 0 ≤ B ∧ B ≤ p - 1) (hl : 0 < (clI p A B).length) : ((clI p A B)[0] == (A, B)) = firB p A B := by
  obtain ⟨h1, h2⟩ := cpS_srt (scL p A B (p.toNat - 1))
  have hm : ∀ c, c ∈ clI p A B ↔ c ∈ scL p A B (p.toNat - 1) := h2
  have hs : Srt (clI p A B) := h1
  have hc : (A, B) ∈ clI p A B := by
    rw [hm]
    unfold scL scAt
    rw [List.mem_map]
    refine ⟨0, List.mem_range.2 (by omega), ?_⟩
    have := sc_one (p := p) (by omega) hA hB
    show (scA p A 1, scB p B 1) = (A, B)
    rw [this.1, this.2]
  clear h1 h2
  generalize clI p A B = L at *
  obtain ⟨a, M, rfl⟩ : ∃ a M, L = a :: M := by cases L with | nil => simp at hl | cons a M => exact ⟨a, M, rfl⟩
  show (a == (A, B)) = _
  rw [Srt, List.pairwise_cons] at hs
  rw [Bool.eq_iff_iff, beq_iff_eq]
  constructor
  · rintro rfl
    unfold firB firTo
    rw [List.all_eq_true]
    intro i hi
    have hd : scAt p A B i ∈ ((A, B) :: M) := by rw [hm]; exact List.mem_map.2 ⟨i, hi, rfl⟩
    have : ltc (scAt p A B i) (A, B) = false := by
      rw [Bool.eq_false_iff]
      intro h9
      rw [ltc_iff] at h9
      rcases List.mem_cons.1 hd with e | e
      · rw [e] at h9; exact ltP.irr _ h9
      · exact (hs.1 _ e).asymm h9
    rw [this]; rfl
  · intro hf
    rcases List.mem_cons.1 hc with e | e
    · exact e.symm
    · have hlt := hs.1 _ e
      have ha : a ∈ scL p A B (p.toNat - 1) := by rw [← hm]; simp
      unfold scL at ha
      obtain ⟨i, hi, rfl⟩ := List.mem_map.1 ha
      unfold firB at hf
      rw [firTo_no (List.mem_range.1 hi) (ltc_iff.2 hlt)] at hf
      cases hf
def cnF (c : Int × Int → Bool) (L : List (Int × Int)) : Int := ((L.filter c).length : Int)
theorem cnF_no {f : Int × Int → Bool} {L : List (Int × Int)} {k : Nat} (hk : k < L.length) (h : f L[k] = false) : cnF f (L.take (k + 1)) = cnF f (L.take k) := by
  unfold cnF; rw [flt_no hk h]
theorem cnF_yes {f : Int × Int → Bool} {L : List (Int × Int)} {k : Nat} (hk : k < L.length) (h : f L[k] = true) : cnF f (L.take (k + 1)) = cnF f (L.take k) + 1 := by
  unfold cnF; rw [flt_yes hk h]; simp
theorem cnF_bd (f : Int × Int → Bool) (L : List (Int × Int)) : 0 ≤ cnF f L ∧ cnF f L ≤ L.length := by
  have := List.length_filter_le f L
  unfold cnF; omega
abbrev firC (p : Int) (c : Int × Int) : Bool := firB p c.1 c.2
noncomputable def clN (p : Int) : Int := if tabP p then cnF (firC p) (tabL p) else 0
theorem OwnsC.cell0 {w : World} {base g n cap : Nat} {L : List (Int × Int)} (h : OwnsC w base (.slice (some ⟨g, 0, none⟩) n cap) L) (hl : 0 < L.length) : w.cell? ⟨g, 0, none⟩ = some (.int .i64 L[0].1) ∧ w.cell? ⟨g, 1, none⟩ = some (.int .i64 L[0].2) ∧ g < w.heap.size := by
  obtain ⟨a, cap', hv, hf⟩ := OwnsP.form h
  obtain ⟨g', e, q1, q2, _, hg, _⟩ := hf 0 hl
  simp only [Value.slice.injEq] at hv
  rw [← hv.1] at e
  obtain rfl : g = g' := by simpa using e
  exact ⟨by simpa using q1, by simpa using q2, hg⟩
def CellP (g : Nat) (X Y : Int) (w : World) : Prop := w.cell? ⟨g, 0, none⟩ = some (.int .i64 X) ∧ w.cell? ⟨g, 1, none⟩ = some (.int .i64 Y) ∧ g < w.heap.size
theorem CellP.closed (g : Nat) (X Y : Int) : Closed (CellP g X Y) := fun _ _ ⟨h1, h2, h3⟩ hb => ⟨(hb.cell (p := ⟨g, 0, none⟩) h3).trans h1, (hb.cell (p := ⟨g, 1, none⟩) h3).trans h2, Nat.lt_of_lt_of_le h3 hb.size⟩
set_option maxHeartbeats 2000000 in
theorem c_ctFirst (p A B : Int) (hp : 5 ≤ p ∧ p ≤ 31) (hA : 0 ≤ A ∧ A ≤ p - 1) (hB : 0 ≤ B ∧ B ≤ p - 1) (w : World) :
    Calls Try.prog 66 #[.int .i64 p, .agg #[.int .i64 A, .int .i64 B]] w fun e w' => e = .returned (.bool (firB p A B)) ∧ Below w.heap.size w w' := by
  have kC := Blk.new w #[.int .i64 A, .int .i64 B] 38
  have hB0 : Below w.heap.size w (w.alloc (.cells #[.int .i64 A, .int .i64 B] 38)) := by (repeat' (first | (with_reducible exact Below.refl _ _) | (with_reducible refine below_step (by assumption) ?_ ?_) | (with_reducible refine Below.alloc ?_ ?_ _) | (with_reducible refine Below.setCell ?_ ?_ _) | (with_reducible refine below_drewN ?_ _) | (with_reducible refine Below.drew ?_) | omega | (simp; omega) | (simp; done)))
  have HF : Hid (firB p A B = firTo p A B (p.toNat - 1)) := rfl
  go_enter Try.func66, Try.ntmps66
  go_wp2
  go_loopw [5] (fun u wr => ∃ k : Nat, u = .int .i64 ((k : Int) + 1) ∧ (k : Int) ≤ p - 1 ∧ Hid (firTo p A B k = true) ∧ Blk w.heap.size #[.int .i64 A, .int .i64 B] 38 wr ∧ Below w.heap.size w wr) (fun u _ => (p - intOf u).toNat)
  case atStart => exact ⟨0, rfl, by omega, rfl, kC, hB0⟩
  case round =>
    clear kC hB0
    obtain ⟨k, rfl, hk, HT, kC, hb⟩ := hrel
    have hsz := hb.size
    have hlt0 := kC.lt
    by_cases hlt : ((k : Int) + 1 < p)
    · have HS := Lib.hid (firTo_succ p A B k)
      have HO : Hid (ltc (scAt p A B k) (A, B) = true → firTo p A B (p.toNat - 1) = false) := fun h => firTo_no (by omega) h
      have hE : ltc (scAt p A B k) (A, B) = (decide (scA p A ((k : Int) + 1) < A) || (scA p A ((k : Int) + 1) == A && decide (scB p B ((k : Int) + 1) < B))) := rfl
      have hsc := fun w => c_ctScaled p A B ((k : Int) + 1) (by omega) (by omega) (by omega) (by omega) w
      generalize scA p A ((k : Int) + 1) = x at *
      generalize scB p B ((k : Int) + 1) = y at *
      have HM := Lib.hid hsc
      clear hsc
      have hlt' := HT.out
      have kC0 : (wr).cell? ⟨w.heap.size, 0, none⟩ = some (.int .i64 A) := kC.cell 0; have kC1 : (wr).cell? ⟨w.heap.size, 1, none⟩ = some (.int .i64 B) := kC.cell 1; have kCl : w.heap.size < (wr).heap.size := kC.lt
      by_cases hx : x < A
      · have HR : Hid (firB p A B = false) := by show _ = _; rw [HF.out]; exact HO.out (by rw [hE]; simp [hx])
        clear hE
        go_wp2_with fail
        refine (HM.out _).mono ?_
        rintro e w1 ⟨rfl, hb1⟩
        have kC2 := kC.next hb1
        have hb2 := below_step hb1 hsz hb
        have hs1 := hb1.size
        have hg1 : w.heap.size < w1.heap.size := by omega
        have kC20 : (w1).cell? ⟨w.heap.size, 0, none⟩ = some (.int .i64 A) := kC2.cell 0; have kC21 : (w1).cell? ⟨w.heap.size, 1, none⟩ = some (.int .i64 B) := kC2.cell 1; have kC2l : w.heap.size < (w1).heap.size := kC2.lt
        go_wp2
        go_ret
        rw [HR.out]
        refine ⟨rfl, ?_⟩
        (repeat' (first | (with_reducible exact Below.refl _ _) | (with_reducible refine below_step (by assumption) ?_ ?_) | (with_reducible refine Below.alloc ?_ ?_ _) | (with_reducible refine Below.setCell ?_ ?_ _) | (with_reducible refine below_drewN ?_ _) | (with_reducible refine Below.drew ?_) | omega | (simp; omega) | (simp; done)))
      · by_cases hx2 : x = A
        · by_cases hy : y < B
          · have HR : Hid (firB p A B = false) := by show _ = _; rw [HF.out]; exact HO.out (by rw [hE]; simp [hx2, hy])
            clear hE
            subst hx2
            go_wp2_with fail
            refine (HM.out _).mono ?_
            rintro e w1 ⟨rfl, hb1⟩
            have kC2 := kC.next hb1
            have hb2 := below_step hb1 hsz hb
            have hs1 := hb1.size
            have hg1 : w.heap.size < w1.heap.size := by omega
            have kC20 : (w1).cell? ⟨w.heap.size, 0, none⟩ = some (.int .i64 x) := kC2.cell 0; have kC21 : (w1).cell? ⟨w.heap.size, 1, none⟩ = some (.int .i64 B) := kC2.cell 1; have kC2l : w.heap.size < (w1).heap.size := kC2.lt
            go_wp2
            go_ret
            rw [HR.out]
            refine ⟨rfl, ?_⟩
            (repeat' (first | (with_reducible exact Below.refl _ _) | (with_reducible refine below_step (by assumption) ?_ ?_) | (with_reducible refine Below.alloc ?_ ?_ _) | (with_reducible refine Below.setCell ?_ ?_ _) | (with_reducible refine below_drewN ?_ _) | (with_reducible refine Below.drew ?_) | omega | (simp; omega) | (simp; done)))
          · have HE : Hid (firTo p A B (k + 1) = true) := by show _ = _; rw [HS.out, HT.out, hE]; simp [hx2, hy]
            clear hE hlt' hx
            subst hx2
            go_wp2_with fail
            refine (HM.out _).mono ?_
            rintro e w1 ⟨rfl, hb1⟩
            have kC2 := kC.next hb1
            have hb2 := below_step hb1 hsz hb
            have hs1 := hb1.size
            have hg1 : w.heap.size < w1.heap.size := by omega
            have kC20 : (w1).cell? ⟨w.heap.size, 0, none⟩ = some (.int .i64 x) := kC2.cell 0; have kC21 : (w1).cell? ⟨w.heap.size, 1, none⟩ = some (.int .i64 B) := kC2.cell 1; have kC2l : w.heap.size < (w1).heap.size := kC2.lt
            have kC3 := kC2.alloc (.cells #[.int .i64 x, .int .i64 y] 38)
            have hb3 : Below w.heap.size w (w1.alloc (.cells #[.int .i64 x, .int .i64 y] 38)) := by (repeat' (first | (with_reducible exact Below.refl _ _) | (with_reducible refine below_step (by assumption) ?_ ?_) | (with_reducible refine Below.alloc ?_ ?_ _) | (with_reducible refine Below.setCell ?_ ?_ _) | (with_reducible refine below_drewN ?_ _) | (with_reducible refine Below.drew ?_) | omega | (simp; omega) | (simp; done)))
            go_wp2
            go_roundw
            case rel => exact ⟨k + 1, by go_num, by omega, HE, kC3, hb3⟩
            case measure => simp [intOf]; omega
        · have HE : Hid (firTo p A B (k + 1) = true) := by show _ = _; rw [HS.out, HT.out, hE]; simp [hx, hx2]
          clear hE hlt'
          go_wp2_with fail
          refine (HM.out _).mono ?_
          rintro e w1 ⟨rfl, hb1⟩
          have kC2 := kC.next hb1
          have hb2 := below_step hb1 hsz hb
          have hs1 := hb1.size
          have hg1 : w.heap.size < w1.heap.size := by omega
          have kC20 : (w1).cell? ⟨w.heap.size, 0, none⟩ = some (.int .i64 A) := kC2.cell 0; have kC21 : (w1).cell? ⟨w.heap.size, 1, none⟩ = some (.int .i64 B) := kC2.cell 1; have kC2l : w.heap.size < (w1).heap.size := kC2.lt
          have kC3 := kC2.alloc (.cells #[.int .i64 x, .int .i64 y] 38)
          have hb3 : Below w.heap.size w (w1.alloc (.cells #[.int .i64 x, .int .i64 y] 38)) := by (repeat' (first | (with_reducible exact Below.refl _ _) | (with_reducible refine below_step (by assumption) ?_ ?_) | (with_reducible refine Below.alloc ?_ ?_ _) | (with_reducible refine Below.setCell ?_ ?_ _) | (with_reducible refine below_drewN ?_ _) | (with_reducible refine Below.drew ?_) | omega | (simp; omega) | (simp; done)))
          go_wp2
          go_roundw
          case rel => exact ⟨k + 1, by go_num, by omega, HE, kC3, hb3⟩
          case measure => simp [intOf]; omega
    · have hk' : k = p.toNat - 1 := by omega
      subst hk'
      have HR : Hid (firB p A B = true) := by show _ = _; rw [HF.out]; exact HT.out
      go_wp2
      go_ret
      rw [HR.out]
      exact ⟨rfl, hb⟩
set_option maxHeartbeats 2000000 in
set_option maxRecDepth 100000 in
theorem c_sClassCount (p : Int) (w : World) :
    Calls Try.prog 34 #[.int .i64 p] w fun e w' => e = .returned (.tuple #[.int .i64 (clN p), .bool (tabP p)]) ∧ Below w.heap.size w w' := by
  unfold clN
  cases hh : tabP p
  · go_enter Try.func34, Try.ntmps34
    go_wp2_with ((go_at_call 39; refine (c_ctPrime _ _).mono ?_; rintro e w' ⟨rfl, rfl⟩))
    go_ret2
    refine ⟨rfl, ?_⟩
    (repeat' (first | (with_reducible exact Below.refl _ _) | (with_reducible refine below_step (by assumption) ?_ ?_) | (with_reducible refine Below.alloc ?_ ?_ _) | (with_reducible refine Below.setCell ?_ ?_ _) | (with_reducible refine below_drewN ?_ _) | (with_reducible refine Below.drew ?_) | omega | (simp; omega) | (simp; done)))
  · rw [if_pos rfl]
    obtain ⟨h5, h31, hpr⟩ := tabP_of hh
    have hlen := tabL_len (p := p) (by omega)
    have HP1 := Lib.hid hh
    have HM : Hid (∀ k (h : k < (tabL p).length), (0 ≤ (tabL p)[k].1 ∧ (tabL p)[k].1 ≤ p - 1) ∧ (0 ≤ (tabL p)[k].2 ∧ (tabL p)[k].2 ≤ p - 1)) := fun k h => ⟨(tabL_mem (List.getElem_mem h)).1, (tabL_mem (List.getElem_mem h)).2.1⟩
    clear hpr
    go_enter Try.func34, Try.ntmps34
    go_wp2_with ((go_at_call 39; refine (c_ctPrime _ _).mono ?_; rintro e w' ⟨rfl, rfl⟩))
    clear hh
    refine (c_ctAll _ HP1.out _).mono ?_
    rintro e w1 ⟨v, rfl, hown, hb1⟩
    have hz1 := hb1.size
    obtain ⟨a, cap, rfl, hform⟩ := OwnsP.form hown
    have HF := Lib.hid hform
    clear hform hown
    go_wp2
    go_loopw [4, 13] (fun n i wr => ∃ k : Nat, k ≤ (tabL p).length ∧ i = .int .i64 k ∧ n = .int .i64 (cnF (firC p) ((tabL p).take k)) ∧ Below w1.heap.size w1 wr) (fun _ i _ => (tabL p).length - (intOf i).toNat)
    case atStart => exact ⟨0, Nat.zero_le _, rfl, rfl, Below.refl _ _⟩
    case round =>
      obtain ⟨k, hk, rfl, rfl, hbr⟩ := hrel
      have hzr := hbr.size
      have hcb := cnF_bd (firC p) ((tabL p).take k)
      rw [List.length_take, Nat.min_eq_left hk] at hcb
      by_cases hlt : k < (tabL p).length
      · obtain ⟨g, rfl, q1, q2, _, hg, _⟩ := HF.out k hlt
        have hm := HM.out k hlt
        have d1 : wr.cell? ⟨g, k * 2, none⟩ = _ := (hbr.cell (p := ⟨g, k * 2, none⟩) hg).trans q1
        have d2 : wr.cell? ⟨g, k * 2 + 1, none⟩ = _ := (hbr.cell (p := ⟨g, k * 2 + 1, none⟩) hg).trans q2
        have HN : Hid (firB p (tabL p)[k].1 (tabL p)[k].2 = false → cnF (firC p) ((tabL p).take (k + 1)) = cnF (firC p) ((tabL p).take k)) := fun h => cnF_no hlt h
        have HY : Hid (firB p (tabL p)[k].1 (tabL p)[k].2 = true → cnF (firC p) ((tabL p).take (k + 1)) = cnF (firC p) ((tabL p).take k) + 1) := fun h => cnF_yes hlt h
        clear q1 q2
        generalize cnF (firC p) ((tabL p).take k) = n at *
        generalize (tabL p)[k] = c at d1 d2 hm HN HY
        obtain ⟨x, y⟩ := c
        simp only at d1 d2 hm HN HY
        cases hq : firB p x y
        · have HE : Hid (_ = _) := HN.out hq
          go_wp2_with fail
          (go_at_call 66; refine (c_ctFirst _ _ _ (by omega) (by omega) (by omega) _).mono ?_; rintro e w2 ⟨rfl, hb2⟩; obtain ⟨hc2, hf2⟩ := bcell hb2; have hz2 := hb2.size; (try simp only [World.size_alloc] at hz2); (try (have hy2 : w.heap.size < w2.heap.size := by omega)); (try (have hx2 := Nat.lt_of_succ_le hz2)); (try (have hv2 := Nat.lt_of_succ_le (Nat.le_of_lt hx2))); (try (have hy2_1 : w1.heap.size < w2.heap.size := by omega)))
          have hbl2 : Below w1.heap.size w1 w2 := by (repeat' (first | (with_reducible exact Below.refl _ _) | (with_reducible refine below_step (by assumption) ?_ ?_) | (with_reducible refine Below.alloc ?_ ?_ _) | (with_reducible refine Below.setCell ?_ ?_ _) | (with_reducible refine below_drewN ?_ _) | (with_reducible refine Below.drew ?_) | omega | (simp; omega) | (simp; done)))
          go_wp2
          go_roundw
          case rel => exact ⟨k + 1, by omega, by go_num, by rw [HE.out], hbl2⟩
          case measure => simp [intOf]; omega
        · have HE : Hid (_ = _) := HY.out hq
          go_wp2_with fail
          (go_at_call 66; refine (c_ctFirst _ _ _ (by omega) (by omega) (by omega) _).mono ?_; rintro e w2 ⟨rfl, hb2⟩; obtain ⟨hc2, hf2⟩ := bcell hb2; have hz2 := hb2.size; (try simp only [World.size_alloc] at hz2); (try (have hy2 : w.heap.size < w2.heap.size := by omega)); (try (have hx2 := Nat.lt_of_succ_le hz2)); (try (have hv2 := Nat.lt_of_succ_le (Nat.le_of_lt hx2))); (try (have hy2_1 : w1.heap.size < w2.heap.size := by omega)))
          have hbl2 : Below w1.heap.size w1 w2 := by (repeat' (first | (with_reducible exact Below.refl _ _) | (with_reducible refine below_step (by assumption) ?_ ?_) | (with_reducible refine Below.alloc ?_ ?_ _) | (with_reducible refine Below.setCell ?_ ?_ _) | (with_reducible refine below_drewN ?_ _) | (with_reducible refine Below.drew ?_) | omega | (simp; omega) | (simp; done)))
          go_wp2
          go_roundw
          case rel => exact ⟨k + 1, by omega, by go_num, by rw [HE.out], hbl2⟩
          case measure => simp [intOf]; omega
      · obtain rfl : k = (tabL p).length := by omega
        rw [List.take_length]
        go_wp2
        go_ret2
        refine ⟨rfl, ?_⟩
        (repeat' (first | (with_reducible exact Below.refl _ _) | (with_reducible refine below_step (by assumption) ?_ ?_) | (with_reducible refine Below.alloc ?_ ?_ _) | (with_reducible refine Below.setCell ?_ ?_ _) | (with_reducible refine below_drewN ?_ _) | (with_reducible refine Below.drew ?_) | omega | (simp; omega) | (simp; done)))
set_option maxHeartbeats 2000000 in
set_option maxRecDepth 100000 in
theorem c_iClassCount (p : Int) (w : World) :
    Calls Try.prog 33 #[.int .i64 p] w fun e w' => e = .returned (.tuple #[.int .i64 (clN p), .bool (tabP p)]) ∧ Below w.heap.size w w' := by
  unfold clN
  cases hh : tabP p
  · go_enter Try.func33, Try.ntmps33
    go_wp2_with ((go_at_call 36; refine (c_isTablePrime _ _).mono ?_; rintro e w' ⟨rfl, rfl⟩))
    go_ret2
    refine ⟨rfl, ?_⟩
    (repeat' (first | (with_reducible exact Below.refl _ _) | (with_reducible refine below_step (by assumption) ?_ ?_) | (with_reducible refine Below.alloc ?_ ?_ _) | (with_reducible refine Below.setCell ?_ ?_ _) | (with_reducible refine below_drewN ?_ _) | (with_reducible refine Below.drew ?_) | omega | (simp; omega) | (simp; done)))
  · rw [if_pos rfl]
    obtain ⟨h5, h31, hpr⟩ := tabP_of hh
    have hlen := tabL_len (p := p) (by omega)
    have HP1 := Lib.hid hh
    have HM : Hid (∀ k (h : k < (tabL p).length), (0 ≤ (tabL p)[k].1 ∧ (tabL p)[k].1 ≤ p - 1) ∧ (0 ≤ (tabL p)[k].2 ∧ (tabL p)[k].2 ≤ p - 1)) := fun k h => ⟨(tabL_mem (List.getElem_mem h)).1, (tabL_mem (List.getElem_mem h)).2.1⟩
    clear hpr
    go_enter Try.func33, Try.ntmps33
    go_wp2_with ((go_at_call 36; refine (c_isTablePrime _ _).mono ?_; rintro e w' ⟨rfl, rfl⟩))
    clear hh
    refine (c_tableOf _ HP1.out _).mono ?_
    rintro e w1 ⟨v, rfl, hown, hb1⟩
    have hz1 := hb1.size
    obtain ⟨a, cap, rfl, hform⟩ := OwnsP.form hown
    have HF := Lib.hid hform
    clear hform hown
    go_wp2
    go_loopw [4, 13] (fun n i wr => ∃ k : Nat, k ≤ (tabL p).length ∧ i = .int .i64 k ∧ n = .int .i64 (cnF (firC p) ((tabL p).take k)) ∧ Below w1.heap.size w1 wr) (fun _ i _ => (tabL p).length - (intOf i).toNat)
    case atStart => exact ⟨0, Nat.zero_le _, rfl, rfl, Below.refl _ _⟩
    case round =>
      obtain ⟨k, hk, rfl, rfl, hbr⟩ := hrel
      have hzr := hbr.size
      have hcb := cnF_bd (firC p) ((tabL p).take k)
      rw [List.length_take, Nat.min_eq_left hk] at hcb
      by_cases hlt : k < (tabL p).length
      · obtain ⟨g, rfl, q1, q2, _, hg, _⟩ := HF.out k hlt
        have hm := HM.out k hlt
        have d1 : wr.cell? ⟨g, k * 2, none⟩ = _ := (hbr.cell (p := ⟨g, k * 2, none⟩) hg).trans q1
        have d2 : wr.cell? ⟨g, k * 2 + 1, none⟩ = _ := (hbr.cell (p := ⟨g, k * 2 + 1, none⟩) hg).trans q2
        have HN : Hid (firB p (tabL p)[k].1 (tabL p)[k].2 = false → cnF (firC p) ((tabL p).take (k + 1)) = cnF (firC p) ((tabL p).take k)) := fun h => cnF_no hlt h
        have HY : Hid (firB p (tabL p)[k].1 (tabL p)[k].2 = true → cnF (firC p) ((tabL p).take (k + 1)) = cnF (firC p) ((tabL p).take k) + 1) := fun h => cnF_yes hlt h
        clear q1 q2
        generalize cnF (firC p) ((tabL p).take k) = n at *
        generalize (tabL p)[k] = c at d1 d2 hm HN HY
        obtain ⟨x, y⟩ := c
        simp only at d1 d2 hm HN HY
        have hLc := cl_pos (A := x) (B := y) h5
        have hfe := fir_eq h5 hm.1 hm.2 hLc
        have hkk := fun w => c_classOf p x y (by omega) hm.1 hm.2 w
        generalize clI p x y = Lc at *
        obtain ⟨⟨X, Y⟩, hLe⟩ : ∃ c, Lc[0] = c := ⟨_, rfl⟩
        rw [hLe] at hfe
        have HFE := Lib.hid hfe
        have HK := Lib.hid hkk
        clear hfe hkk
        have kD := Blk.new wr #[.int .i64 x, .int .i64 y] 38
        have hb2 : Below w1.heap.size w1 (wr.alloc (.cells #[.int .i64 x, .int .i64 y] 38)) := by (repeat' (first | (with_reducible exact Below.refl _ _) | (with_reducible refine below_step (by assumption) ?_ ?_) | (with_reducible refine Below.alloc ?_ ?_ _) | (with_reducible refine Below.setCell ?_ ?_ _) | (with_reducible refine below_drewN ?_ _) | (with_reducible refine Below.drew ?_) | omega | (simp; omega) | (simp; done)))
        have hcapl : (0 : Int) < Lc.length := by omega
        go_wp2
        generalize wr.alloc _ = W at *
        generalize wr.heap.size = r6 at *
        have kD0 : (W).cell? ⟨r6, 0, none⟩ = some (.int .i64 x) := kD.cell 0; have kD1 : (W).cell? ⟨r6, 1, none⟩ = some (.int .i64 y) := kD.cell 1; have kDl : r6 < (W).heap.size := kD.lt
        by_cases hx : X = x
        case neg =>
          have hq : firB p x y = false := by rw [← HFE.out]; simp [hx]
          have HE : Hid (_ = _) := HN.out hq
          clear hq
          refine wp_region_cls [] (fun _ => false) (fun _ => True) (fun _ => True) (by kernel_rfl) trivial ?_
          apply wpAnyF_hd ⟨W, Over.refl _ _, trivial⟩ [true, true, false, false, false, true] 4 (Closed.true) (fun _ _ => trivial) (by kernel_rfl) (by kernel_rfl) (by kernel_rfl) (by kernel_rfl) (by simp)
          · intro E hE hEN hEn; (repeat (first | (refine wpHL_take ?_; go_big_quiet_step (fail); refine wpQuiet_nil ?_) | refine wpHL_skip ?_)); exact wpHL_end rfl
          refine wpAnyF_ready [2] 3 (by kernel_rfl) (by kernel_rfl) (by simp) (AllF.cons ?_ AllF.nil)
          refine stepC_calle (some 19) (fun v w' => OwnsC w' W.heap.size v Lc) (by rfl) (by rfl) (by rfl) (fun _ => by go_simp) (fun v w1 w2 h hb => OwnsP.below h hb) (fun w1 hO _ => (HK.out w1).mono fun _ w2 ⟨v, he, ho, hb⟩ => ⟨v, he, Over.of_below hb, ho.le hO.size⟩) (fun v hne => ?_)
          obtain ⟨w9, hO9, ho9⟩ := hne
          obtain ⟨a, cap, rfl, hf9⟩ := OwnsP.form ho9
          obtain ⟨g9, rfl, _⟩ := hf9 0 hLc
          clear hf9
          have hD2 : ∀ w', OwnsC w' W.heap.size (.slice (some ⟨g9, 0, none⟩) Lc.length cap) Lc → CellP g9 X Y w' := fun w' h => by have := OwnsC.cell0 h hLc; rwa [hLe] at this
          simp only [Act.put, List.setIfInBounds_toArray, List.set_cons_succ, List.set_cons_zero]
          refine wpAnyF_weaken (D2 := CellP g9 X Y) hD2 ?_
          refine wpAnyF_N (N' := CellP g9 X Y) ?_
          apply wpAnyF_hd ⟨w9, hO9, hD2 _ ho9⟩ [false, false, false, true, true, false, true] 0 (CellP.closed _ _ _) (fun _ h => h) (by kernel_rfl) (by kernel_rfl) (by kernel_rfl) (by kernel_rfl) (by simp)
          · intro E hE hEN hEn; have hk0 : ∀ c : Cls [] W E, c.wd.cell? ⟨g9, 0, none⟩ = some (.int .i64 X) := fun c => (hEN _ c.more).1; have hk1 : ∀ c : Cls [] W E, c.wd.cell? ⟨g9, 1, none⟩ = some (.int .i64 Y) := fun c => (hEN _ c.more).2.1; (repeat (first | (refine wpHL_take ?_; go_big_quiet_step (fail); refine wpQuiet_nil ?_) | refine wpHL_skip ?_)); exact wpHL_end rfl
          refine wpAnyF_done (by kernel_rfl) (fun Wz hOz hDz => NoPanic.normal ?_) _
          try dsimp only
          have hbz : Below w1.heap.size w1 Wz := below_step hOz.below hb2.size hb2
          clear hD2 ho9 hO9 hDz
          go_wp2
          go_roundw
          case rel => exact ⟨k + 1, by omega, by go_num, by rw [HE.out], hbz⟩
          case measure => simp [intOf]; omega
        by_cases hy : Y = y
        case neg =>
          have hq : firB p x y = false := by rw [← HFE.out]; simp [hy]
          have HE : Hid (_ = _) := HN.out hq
          clear hq
          subst hx
          refine wp_region_cls [] (fun _ => false) (fun _ => True) (fun _ => True) (by kernel_rfl) trivial ?_
          apply wpAnyF_hd ⟨W, Over.refl _ _, trivial⟩ [true, true, false, false, false, true] 4 (Closed.true) (fun _ _ => trivial) (by kernel_rfl) (by kernel_rfl) (by kernel_rfl) (by kernel_rfl) (by simp)
          · intro E hE hEN hEn; (repeat (first | (refine wpHL_take ?_; go_big_quiet_step (fail); refine wpQuiet_nil ?_) | refine wpHL_skip ?_)); exact wpHL_end rfl
          refine wpAnyF_ready [2] 3 (by kernel_rfl) (by kernel_rfl) (by simp) (AllF.cons ?_ AllF.nil)
          refine stepC_calle (some 19) (fun v w' => OwnsC w' W.heap.size v Lc) (by rfl) (by rfl) (by rfl) (fun _ => by go_simp) (fun v w1 w2 h hb => OwnsP.below h hb) (fun w1 hO _ => (HK.out w1).mono fun _ w2 ⟨v, he, ho, hb⟩ => ⟨v, he, Over.of_below hb, ho.le hO.size⟩) (fun v hne => ?_)
          obtain ⟨w9, hO9, ho9⟩ := hne
          obtain ⟨a, cap, rfl, hf9⟩ := OwnsP.form ho9
          obtain ⟨g9, rfl, _⟩ := hf9 0 hLc
          clear hf9
          have hD2 : ∀ w', OwnsC w' W.heap.size (.slice (some ⟨g9, 0, none⟩) Lc.length cap) Lc → CellP g9 X Y w' := fun w' h => by have := OwnsC.cell0 h hLc; rwa [hLe] at this
          simp only [Act.put, List.setIfInBounds_toArray, List.set_cons_succ, List.set_cons_zero]
          refine wpAnyF_weaken (D2 := CellP g9 X Y) hD2 ?_
          refine wpAnyF_N (N' := CellP g9 X Y) ?_
          apply wpAnyF_hd ⟨w9, hO9, hD2 _ ho9⟩ [false, false, false, true, true, false, true] 0 (CellP.closed _ _ _) (fun _ h => h) (by kernel_rfl) (by kernel_rfl) (by kernel_rfl) (by kernel_rfl) (by simp)
          · intro E hE hEN hEn; have hk0 : ∀ c : Cls [] W E, c.wd.cell? ⟨g9, 0, none⟩ = some (.int .i64 X) := fun c => (hEN _ c.more).1; have hk1 : ∀ c : Cls [] W E, c.wd.cell? ⟨g9, 1, none⟩ = some (.int .i64 Y) := fun c => (hEN _ c.more).2.1; (repeat (first | (refine wpHL_take ?_; go_big_quiet_step (fail); refine wpQuiet_nil ?_) | refine wpHL_skip ?_)); exact wpHL_end rfl
          refine wpAnyF_done (by kernel_rfl) (fun Wz hOz hDz => NoPanic.normal ?_) _
          try dsimp only
          have hbz : Below w1.heap.size w1 Wz := below_step hOz.below hb2.size hb2
          clear hD2 ho9 hO9 hDz
          go_wp2
          go_roundw
          case rel => exact ⟨k + 1, by omega, by go_num, by rw [HE.out], hbz⟩
          case measure => simp [intOf]; omega
        have hq : firB p x y = true := by rw [← HFE.out]; simp [hx, hy]
        have HE : Hid (_ = _) := HY.out hq
        clear hq
        subst hx
        subst hy
        refine wp_region_cls [] (fun _ => false) (fun _ => True) (fun _ => True) (by kernel_rfl) trivial ?_
        apply wpAnyF_hd ⟨W, Over.refl _ _, trivial⟩ [true, true, false, false, false, true] 4 (Closed.true) (fun _ _ => trivial) (by kernel_rfl) (by kernel_rfl) (by kernel_rfl) (by kernel_rfl) (by simp)
        · intro E hE hEN hEn; (repeat (first | (refine wpHL_take ?_; go_big_quiet_step (fail); refine wpQuiet_nil ?_) | refine wpHL_skip ?_)); exact wpHL_end rfl
        refine wpAnyF_ready [2] 3 (by kernel_rfl) (by kernel_rfl) (by simp) (AllF.cons ?_ AllF.nil)
        refine stepC_calle (some 19) (fun v w' => OwnsC w' W.heap.size v Lc) (by rfl) (by rfl) (by rfl) (fun _ => by go_simp) (fun v w1 w2 h hb => OwnsP.below h hb) (fun w1 hO _ => (HK.out w1).mono fun _ w2 ⟨v, he, ho, hb⟩ => ⟨v, he, Over.of_below hb, ho.le hO.size⟩) (fun v hne => ?_)
        obtain ⟨w9, hO9, ho9⟩ := hne
        obtain ⟨a, cap, rfl, hf9⟩ := OwnsP.form ho9
        obtain ⟨g9, rfl, _⟩ := hf9 0 hLc
        clear hf9
        have hD2 : ∀ w', OwnsC w' W.heap.size (.slice (some ⟨g9, 0, none⟩) Lc.length cap) Lc → CellP g9 X Y w' := fun w' h => by have := OwnsC.cell0 h hLc; rwa [hLe] at this
        simp only [Act.put, List.setIfInBounds_toArray, List.set_cons_succ, List.set_cons_zero]
        refine wpAnyF_weaken (D2 := CellP g9 X Y) hD2 ?_
        refine wpAnyF_N (N' := CellP g9 X Y) ?_
        apply wpAnyF_hd ⟨w9, hO9, hD2 _ ho9⟩ [false, false, false, true, true, false, true] 0 (CellP.closed _ _ _) (fun _ h => h) (by kernel_rfl) (by kernel_rfl) (by kernel_rfl) (by kernel_rfl) (by simp)
        · intro E hE hEN hEn; have hk0 : ∀ c : Cls [] W E, c.wd.cell? ⟨g9, 0, none⟩ = some (.int .i64 X) := fun c => (hEN _ c.more).1; have hk1 : ∀ c : Cls [] W E, c.wd.cell? ⟨g9, 1, none⟩ = some (.int .i64 Y) := fun c => (hEN _ c.more).2.1; (repeat (first | (refine wpHL_take ?_; go_big_quiet_step (fail); refine wpQuiet_nil ?_) | refine wpHL_skip ?_)); exact wpHL_end rfl
        refine wpAnyF_done (by kernel_rfl) (fun Wz hOz hDz => NoPanic.normal ?_) _
        try dsimp only
        have hbz : Below w1.heap.size w1 Wz := below_step hOz.below hb2.size hb2
        clear hD2 ho9 hO9 hDz
        go_wp2
        go_roundw
        case rel => exact ⟨k + 1, by omega, by go_num, by rw [HE.out], hbz⟩
        case measure => simp [intOf]; omega
      · obtain rfl : k = (tabL p).length := by omega
        rw [List.take_length]
        go_wp2
        go_ret2
        refine ⟨rfl, ?_⟩
        (repeat' (first | (with_reducible exact Below.refl _ _) | (with_reducible refine below_step (by assumption) ?_ ?_) | (with_reducible refine Below.alloc ?_ ?_ _) | (with_reducible refine Below.setCell ?_ ?_ _) | (with_reducible refine below_drewN ?_ _) | (with_reducible refine Below.drew ?_) | omega | (simp; omega) | (simp; done)))
noncomputable def coL (p A B : Int) : List (Int × Int) := if tabB p A B then clS p A B else []
theorem coL_len (p A B : Int) : (coL p A B).length ≤ 961 := by
  unfold coL
  split
  · rename_i h
    have := (tabB_of h).1
    have h2 := List.length_filter_le (isSc p A B (p.toNat - 1)) (tabL p)
    have h3 := tabL_len (p := p) (by omega)
    unfold clS; omega
  · simp
set_option maxHeartbeats 1000000 in
theorem c_sClassOf (p A B : Int) (w : World) :
    Calls Try.prog 24 #[.int .i64 p, .agg #[.int .i64 A, .int .i64 B]] w (ListPost 38 w (coL p A B) (tabB p A B)) := by
  have kC := Blk.new w #[.int .i64 A, .int .i64 B] 38
  have hB0 : Below w.heap.size w (w.alloc (.cells #[.int .i64 A, .int .i64 B] 38)) := by (repeat' (first | (with_reducible exact Below.refl _ _) | (with_reducible refine below_step (by assumption) ?_ ?_) | (with_reducible refine Below.alloc ?_ ?_ _) | (with_reducible refine Below.setCell ?_ ?_ _) | (with_reducible refine below_drewN ?_ _) | (with_reducible refine Below.drew ?_) | omega | (simp; omega) | (simp; done)))
  unfold coL
  cases h : tabB p A B
  · go_enter Try.func24, Try.ntmps24
    go_wp2_with ((go_at_call 52; refine (c_ctAsked _ _ _ _).mono ?_; rintro e w1 ⟨rfl, hb1⟩; obtain ⟨hc1, hf1⟩ := bcell hb1; have hz1 := hb1.size; (try simp only [World.size_alloc] at hz1); (try (have hy1 : w.heap.size < w1.heap.size := by omega)); (try (have hx1 := Nat.lt_of_succ_le hz1)); (try (have hv1 := Nat.lt_of_succ_le (Nat.le_of_lt hx1)))))
    go_ret2
    refine ⟨_, rfl, OwnsP.nil _ _ _, ?_⟩
    (repeat' (first | (with_reducible exact Below.refl _ _) | (with_reducible refine below_step (by assumption) ?_ ?_) | (with_reducible refine Below.alloc ?_ ?_ _) | (with_reducible refine Below.setCell ?_ ?_ _) | (with_reducible refine below_drewN ?_ _) | (with_reducible refine Below.drew ?_) | omega | (simp; omega) | (simp; done)))
  · rw [if_pos rfl]
    have hc := fun w => c_ctClass p A B (by unfold tabB at h; simp only [Bool.and_eq_true] at h; exact h.1.1.1) (tabB_of h).2.2.1 (tabB_of h).2.2.2 w
    have HC := Lib.hid hc
    clear hc
    go_enter Try.func24, Try.ntmps24
    go_wp2_with fail
    (go_at_call 52; refine (c_ctAsked _ _ _ _).mono ?_; rintro e w1 ⟨rfl, hb1⟩; obtain ⟨hc1, hf1⟩ := bcell hb1; have hz1 := hb1.size; (try simp only [World.size_alloc] at hz1); (try (have hy1 : w.heap.size < w1.heap.size := by omega)); (try (have hx1 := Nat.lt_of_succ_le hz1)); (try (have hv1 := Nat.lt_of_succ_le (Nat.le_of_lt hx1))))
    have kC1 := kC.next hb1
    have hb2 := below_step hb1 hB0.size hB0
    have kC10 : (w1).cell? ⟨w.heap.size, 0, none⟩ = some (.int .i64 A) := kC1.cell 0; have kC11 : (w1).cell? ⟨w.heap.size, 1, none⟩ = some (.int .i64 B) := kC1.cell 1; have kC1l : w.heap.size < (w1).heap.size := kC1.lt
    go_wp2_with fail
    refine (HC.out _).mono ?_
    rintro e w2 ⟨v, rfl, ho, hb3⟩
    have hs2 := hb2.size
    have hb4 := below_step hb3 hb2.size hb2
    go_wp2
    go_ret2
    exact ⟨v, rfl, ho.le hs2, hb4⟩
set_option maxHeartbeats 1000000 in
theorem c_iClassOf (p A B : Int) (w : World) :
    Calls Try.prog 23 #[.int .i64 p, .agg #[.int .i64 A, .int .i64 B]] w (ListPost 38 w (coL p A B) (tabB p A B)) := by
  have kC := Blk.new w #[.int .i64 A, .int .i64 B] 38
  have hB0 : Below w.heap.size w (w.alloc (.cells #[.int .i64 A, .int .i64 B] 38)) := by (repeat' (first | (with_reducible exact Below.refl _ _) | (with_reducible refine below_step (by assumption) ?_ ?_) | (with_reducible refine Below.alloc ?_ ?_ _) | (with_reducible refine Below.setCell ?_ ?_ _) | (with_reducible refine below_drewN ?_ _) | (with_reducible refine Below.drew ?_) | omega | (simp; omega) | (simp; done)))
  unfold coL
  cases h : tabB p A B
  · go_enter Try.func23, Try.ntmps23
    go_wp2_with ((go_at_call 50; refine (c_isTableCurve _ _ _ _).mono ?_; rintro e w1 ⟨rfl, hb1⟩; obtain ⟨hc1, hf1⟩ := bcell hb1; have hz1 := hb1.size; (try simp only [World.size_alloc] at hz1); (try (have hy1 : w.heap.size < w1.heap.size := by omega)); (try (have hx1 := Nat.lt_of_succ_le hz1)); (try (have hv1 := Nat.lt_of_succ_le (Nat.le_of_lt hx1)))))
    go_ret2
    refine ⟨_, rfl, OwnsP.nil _ _ _, ?_⟩
    (repeat' (first | (with_reducible exact Below.refl _ _) | (with_reducible refine below_step (by assumption) ?_ ?_) | (with_reducible refine Below.alloc ?_ ?_ _) | (with_reducible refine Below.setCell ?_ ?_ _) | (with_reducible refine below_drewN ?_ _) | (with_reducible refine Below.drew ?_) | omega | (simp; omega) | (simp; done)))
  · rw [if_pos rfl]
    have hc := fun w => c_classOf p A B (tabB_of h).1 (tabB_of h).2.2.1 (tabB_of h).2.2.2 w
    rw [cl_eq h] at hc
    have HC := Lib.hid hc
    clear hc
    go_enter Try.func23, Try.ntmps23
    go_wp2_with fail
    (go_at_call 50; refine (c_isTableCurve _ _ _ _).mono ?_; rintro e w1 ⟨rfl, hb1⟩; obtain ⟨hc1, hf1⟩ := bcell hb1; have hz1 := hb1.size; (try simp only [World.size_alloc] at hz1); (try (have hy1 : w.heap.size < w1.heap.size := by omega)); (try (have hx1 := Nat.lt_of_succ_le hz1)); (try (have hv1 := Nat.lt_of_succ_le (Nat.le_of_lt hx1))))
    have kC1 := kC.next hb1
    have hb2 := below_step hb1 hB0.size hB0
    have kC10 : (w1).cell? ⟨w.heap.size, 0, none⟩ = some (.int .i64 A) := kC1.cell 0; have kC11 : (w1).cell? ⟨w.heap.size, 1, none⟩ = some (.int .i64 B) := kC1.cell 1; have kC1l : w.heap.size < (w1).heap.size := kC1.lt
    go_wp2_with fail
    refine (HC.out _).mono ?_
    rintro e w2 ⟨v, rfl, ho, hb3⟩
    have hs2 := hb2.size
    have hb4 := below_step hb3 hb2.size hb2
    go_wp2
    go_ret2
    exact ⟨v, rfl, ho.le hs2, hb4⟩
end Go.Proofs.Ytilgeeaobdebhaa
