/- Walks: the table of traces, the program's (a map of counts); the law. -/
import Derived.Test.YtilgeeaobdebhaaTtb
namespace Go.Proofs.Ytilgeeaobdebhaa
open Go.RowKit Go.Maps

theorem lawI : Keyed Try.prog 3 := int_keyed Try.underlying3
theorem zeroI (w : World) : (zeroValue 3).run Try.prog w = .ok (.int .i64 0) w := by kernel_rfl
/-- block B is a map of at most k entries that counts as f says -/
def MapI (w : World) (B k : Nat) (f : Int → Int) : Prop := ∃ D : DataW Unit, w.ownsMap Try.prog 3 (plainElem Try.prog 3) B k D ∧ IsMap D ∧ ∀ t, D.atKey (.int .i64 t) (.lit (.int .i64 0)) = .lit (.int .i64 (f t))
theorem MapI.block {w w1 : World} {B k : Nat} {f : Int → Int} (h : MapI w B k f) (hb : w1.heap[B]? = w.heap[B]?) : MapI w1 B k f := by
  obtain ⟨D, ⟨es, clock, h1, r⟩, hD, hf⟩ := h
  exact ⟨D, ⟨es, clock, hb.trans h1, r⟩, hD, hf⟩
theorem MapI.lt {w : World} {B k : Nat} {f : Int → Int} (h : MapI w B k f) : B < w.heap.size := by
  obtain ⟨D, ⟨es, clock, h1, r⟩, hD, hf⟩ := h
  exact (Array.getElem?_eq_some_iff.1 h1).1
theorem MapI.below {w w1 : World} {B k : Nat} {f : Int → Int} (h : MapI w B k f) (hb : Below w.heap.size w w1) : MapI w1 B k f := h.block (hb.block B h.lt)
theorem MapI.step {D : DataW Unit} {L : List (Int × Int)} {p t n : Int} {k : Nat} (hk : k < L.length) (hD : IsMap D) (hf : ∀ t, D.atKey (.int .i64 t) (.lit (.int .i64 0)) = .lit (.int .i64 (cntT p (L.take k) t))) (ht : trC p L[k] = t) (hn : cntT p (L.take k) t = n) :
    ∀ s, (D.put (.int .i64 t) (.lit (.int .i64 (n + 1)))).atKey (.int .i64 s) (.lit (.int .i64 0)) = .lit (.int .i64 (cntT p (L.take (k + 1)) s)) := by
  intro s
  by_cases hs : s = t
  · rw [hs, atKey_put_same hD (k := .int .i64 t) (show WideAt.IsKeyLit (.int .i64 t) from trivial), ← hn, ← ht, cntT_hit hk]
  · rw [atKey_put_other (by intro e; exact hs (by simpa using e)), hf s, cntT_miss hk (by rw [ht]; exact hs)]
theorem put_isMap {D : DataW Unit} {kl : Lit} {d : DataW Unit} (h : IsMap D) : IsMap (D.put kl d) := by
  obtain ⟨es, rfl⟩ := h
  exact ⟨_, rfl⟩
set_option maxHeartbeats 4000000 in
set_option maxRecDepth 100000 in
theorem c_iTraceTable (p : Int) (w : World) : Calls Try.prog 7 #[.int .i64 p] w (QPost w (ttL p) (tabP p)) := by
  unfold ttL
  have hmm := @run_makeMap Try.prog
  cases hh : tabP p
  · go_enter Try.func7, Try.ntmps7
    go_wp2_with ((go_at_call 36; refine (c_isTablePrime _ _).mono ?_; rintro e w' ⟨rfl, rfl⟩))
    go_ret2
    exact ⟨_, [], rfl, OwnsQ.nil _ _, Below.refl _ _⟩
  · rw [if_pos rfl, ← ttL_one hh]
    obtain ⟨h5, h31, hpr⟩ := tabP_of hh
    have hlen := tabL_len (p := p) (by omega)
    have HP1 := Lib.hid hh
    have HP := Lib.hid hpr
    obtain ⟨N, hN, hNt⟩ : ∃ N : Nat, 4 * p = (N : Int) ∧ (4 * p).toNat = N := ⟨(4 * p).toNat, by omega, rfl⟩
    rw [hNt]
    have hNb : N ≤ 124 := by omega
    have HM : Hid (∀ k (h : k < (tabL p).length), (0 ≤ (tabL p)[k].1 ∧ (tabL p)[k].1 ≤ p - 1) ∧ (0 ≤ (tabL p)[k].2 ∧ (tabL p)[k].2 ≤ p - 1)) := fun k h => ⟨(tabL_mem (List.getElem_mem h)).1, (tabL_mem (List.getElem_mem h)).2.1⟩
    have hm0 : MapI (w.alloc (.map #[] 0)) w.heap.size 0 (cntT p []) := ⟨_, World.ownsMap_made _ _ _ _, isMap_empty, fun t => rfl⟩
    have hb0 : Below w.heap.size w (w.alloc (.map #[] 0)) := (Below.refl _ _).alloc (Nat.le_refl _) _
    have hBl : w.heap.size < (w.alloc (.map #[] 0)).heap.size := by simp
    clear hpr hNt
    go_enter Try.func7, Try.ntmps7
    go_wp2_with ((go_at_call 36; refine (c_isTablePrime _ _).mono ?_; rintro e w' ⟨rfl, rfl⟩))
    clear hh hmm
    generalize w.alloc _ = wm at *
    generalize hbb : w.heap.size = B at *
    have HB := Lib.hid hbb
    clear hbb
    refine (c_tableOf _ HP1.out _).mono ?_
    rintro e w1 ⟨v, rfl, hownT, hb1⟩
    have hz1 := hb1.size
    have hm1 := hm0.below hb1
    have hB1 := hb0.trans (hb1.mono (B' := B) (by omega))
    obtain ⟨a, cap, rfl, hform⟩ := OwnsP.form hownT
    have HF := Lib.hid hform
    clear hform hownT hm0 hb0 hb1
    go_wp2
    go_loopw [16] (fun i wr => ∃ k : Nat, k ≤ (tabL p).length ∧ i = .int .i64 k ∧ MapI wr B k (cntT p ((tabL p).take k)) ∧ Over [B] w1 wr) (fun i _ => (tabL p).length - (intOf i).toNat)
    case atStart => exact ⟨0, Nat.zero_le _, rfl, by simpa using hm1, Over.refl _ _⟩
    case round =>
      clear hm1
      obtain ⟨k, hk, rfl, ho, hov⟩ := hrel
      have hzr := hov.size
      by_cases hlt : k < (tabL p).length
      · obtain ⟨g, rfl, q1, q2, _, hg, hgb⟩ := HF.out k hlt
        have hm := HM.out k hlt
        have hgB : g ≠ B := by omega
        have d1 : wr.cell? ⟨g, k * 2, none⟩ = _ := (hov.cell (p := ⟨g, k * 2, none⟩) hg (by simpa using hgB)).trans q1
        have d2 : wr.cell? ⟨g, k * 2 + 1, none⟩ = _ := (hov.cell (p := ⟨g, k * 2 + 1, none⟩) hg (by simpa using hgB)).trans q2
        have htr := tr_bd HP1.out (c := (tabL p)[k])
        obtain ⟨t, ht⟩ : ∃ t, trC p (tabL p)[k] = t := ⟨_, rfl⟩
        obtain ⟨n, hn⟩ : ∃ n, cntT p ((tabL p).take k) t = n := ⟨_, rfl⟩
        have hcb := cntT_bd p ((tabL p).take k) t
        rw [List.length_take, Nat.min_eq_left hk, hn] at hcb
        rw [ht] at htr
        have hm1 := c_traceAt (tabL p)[k].1 (tabL p)[k].2 p (by omega) (by omega) (by omega) HP.out
        have ht' : trV (tabL p)[k].1 (tabL p)[k].2 p = t := ht
        rw [ht'] at hm1
        have HT := Lib.hid ht
        have HN := Lib.hid hn
        have HS := Lib.hid (fun (D : DataW Unit) hD hf => MapI.step (D := D) (p := p) hlt hD hf ht hn)
        clear ht' ht hn
        generalize (tabL p)[k] = c at d1 d2 hm hm1
        obtain ⟨x, y⟩ := c
        simp only at d1 d2 hm hm1
        have HK := Lib.hid hm1
        clear q1 q2 hm1
        go_wp2_with fail
        refine (HK.out _).mono ?_
        rintro e w2 ⟨rfl, hb2⟩
        have hb3 : Below wr.heap.size wr w2 := below_step hb2 (by simp) ((Below.refl _ _).alloc (Nat.le_refl _) _)
        have ho3 := ho.below hb3
        have hov3 := hov.next hb3
        obtain ⟨D, hown, hisD, hf⟩ := ho3
        have HF3 := Lib.hid hf
        have HD := Lib.hid hisD
        clear hf hisD d1 d2 ho
        have hn1 : 0 ≤ n ∧ n ≤ 1000 := by omega
        go_wp2_with (first
          | (at_lookup; refine wpList_lookup_own_int _ rfl _ _ 55 rfl 3 3 .i64 lawI Try.underlying55 Try.underlying3 (zeroI _) B k _ rfl hown _ _ rfl (keyOf_int_mk Try.underlying3 (WalkArith.wf_i64 (by omega))) ?_; intro c hat hwc; obtain rfl : n = c := (by have h9 := (HF3.out t).symm.trans hat; rw [HN.out] at h9; simpa using h9); clear hat hwc)
          | (at_mapUpdate; refine wpList_mapUpdate_own _ rfl _ _ _ 55 rfl 3 3 lawI Try.underlying55 _ B k _ rfl hown (by unfold maxLen; omega) _ _ _ rfl rfl (keyOf_int_mk Try.underlying3 (WalkArith.wf_i64 (by omega))) _ [] (plainElem_int Try.underlying3 (WalkArith.wf_i64 (by omega))) ?_; intro w4 hown4 hg4))
        have hov4 : Over [B] w1 w4 := ⟨hg4.os.trans hov3.os, hg4.tape.trans hov3.tape, hg4.output.trans hov3.output, Nat.le_trans hov3.size hg4.size, fun q hq hn => (hg4.block q (Nat.lt_of_lt_of_le hq hov3.size) (by intro e; apply hn; simp only [Option.some.injEq] at e; simp [e])).trans (hov3.block q hq hn)⟩
        have HR : Hid (MapI w4 B (k + 1) (cntT p ((tabL p).take (k + 1)))) := ⟨_, hown4, put_isMap HD.out, HS.out D HD.out HF3.out⟩
        clear hown4 hg4
        go_wp2
        go_roundw
        case rel => exact ⟨k + 1, by omega, by go_num, HR.out, hov4⟩
        case measure => simp [intOf]; omega
      · obtain rfl : k = (tabL p).length := by omega
        rw [List.take_length] at ho
        have hBw := Over.toBelow hov hB1 (Nat.le_refl _) (by omega)
        clear hov hB1
        have hfb := fun t => cntT_bd p (tabL p) t
        generalize cntT p (tabL p) = f at *
        have HFB := Lib.hid hfb
        have hs0 := hBw.size
        clear hfb
        go_wp2
        go_loopw [7, 8] (fun out t w2 => ∃ (j : Nat) (gs : List Nat), j ≤ N + 1 ∧ t = .int .i64 (-2 * p + (j : Int)) ∧ OwnsQ w2 wr.heap.size out gs (rowsTo f (-2 * p) j) ∧ Below wr.heap.size wr w2) (fun _ t _ => (2 * p + 1 - intOf t).toNat)
        case atStart => exact ⟨0, [], Nat.zero_le _, by simp, OwnsQ.nil _ _, Below.refl _ _⟩
        case round =>
          obtain ⟨j, gs, hj, rfl, hoq, hb2⟩ := hrel
          rename World => w2
          have hs2 := hb2.size
          by_cases hlt2 : j < N + 1
          · have ho2 := ho.below hb2
            obtain ⟨D, hown, hisD, hf⟩ := ho2
            have HF3 := Lib.hid hf
            clear hf hisD
            have hfj := HFB.out (-2 * p + (j : Int))
            have hrl := rowsTo_len f (-2 * p) j
            have hle : -2 * p + (j : Int) ≤ 2 * p := by omega
            obtain ⟨n, hn⟩ : ∃ n, f (-2 * p + (j : Int)) = n := ⟨_, rfl⟩
            rw [hn] at hfj
            have HN := Lib.hid hn
            by_cases hpos : 0 < n
            · have HY := Lib.hid (rowsTo_yes (f := f) (lo := -2 * p) (k := j) (by rw [hn]; exact hpos))
              rw [hn] at HY
              clear hn
              go_wp2_with (first
                | (at_lookup; refine wpList_lookup_own_int _ rfl _ _ 55 rfl 3 3 .i64 lawI Try.underlying55 Try.underlying3 (zeroI _) B _ _ rfl hown _ _ rfl (keyOf_int_mk Try.underlying3 (WalkArith.wf_i64 (by omega))) ?_; intro c hat hwc; obtain rfl : n = c := (by have h9 := (HF3.out (-2 * p + (j : Int))).symm.trans hat; rw [HN.out] at h9; simpa using h9); clear hat hwc)
                | (at_builtin; refine wpList_appQ (c := -2 * p + (j : Int)) (d := n) rfl _ _ rfl wr.heap.size _ gs _ rfl hoq rfl (by omega) hs2 ?_; intro v' w4 ho4 hb4))
              have hb5 := hb2.trans hb4
              go_wp2
              go_roundw
              case rel => exact ⟨j + 1, _, by omega, by go_num, by rw [HY.out]; exact ho4, hb5⟩
              case measure => simp [intOf]; omega
            · have HN' := Lib.hid (rowsTo_no (f := f) (lo := -2 * p) (k := j) (by rw [hn]; exact hpos))
              clear hn
              go_wp2_with (at_lookup; refine wpList_lookup_own_int _ rfl _ _ 55 rfl 3 3 .i64 lawI Try.underlying55 Try.underlying3 (zeroI _) B _ _ rfl hown _ _ rfl (keyOf_int_mk Try.underlying3 (WalkArith.wf_i64 (by omega))) ?_; intro c hat hwc; obtain rfl : n = c := (by have h9 := (HF3.out (-2 * p + (j : Int))).symm.trans hat; rw [HN.out] at h9; simpa using h9); clear hat hwc)
              go_wp2
              go_roundw
              case rel => exact ⟨j + 1, gs, by omega, by go_num, by rw [HN'.out]; exact hoq, hb2⟩
              case measure => simp [intOf]; omega
          · obtain rfl : j = N + 1 := by omega
            have hgt : ¬ (-2 * p + ((N + 1 : Nat) : Int) ≤ 2 * p) := by omega
            go_wp2
            go_ret2
            have hBB := HB.out
            refine ⟨_, gs, rfl, ?_, ?_⟩
            · rw [hBB]
              exact hoq.le (by omega)
            · rw [hBB]
              exact hBw.trans (hb2.mono (by omega))
end Go.Proofs.Ytilgeeaobdebhaa
