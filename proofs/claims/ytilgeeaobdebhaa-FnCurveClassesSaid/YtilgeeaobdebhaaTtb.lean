/- Walks: the table of traces, both functions, the law. -/
import Derived.Test.YtilgeeaobdebhaaQs
import Derived.Test.YtilgeeaobdebhaaDelC
import Derived.Maps.OwnOps
import Derived.Maps.Views
import Derived.Laws.OwnMore
namespace Go.Proofs.Ytilgeeaobdebhaa
open Go.RowKit

abbrev trC (p : Int) (c : Int × Int) : Int := trV c.1 c.2 p
def cntT (p : Int) (L : List (Int × Int)) (t : Int) : Int := ((L.filter fun c => trC p c == t).length : Int)
theorem cntT_bd (p : Int) (L : List (Int × Int)) (t : Int) : 0 ≤ cntT p L t ∧ cntT p L t ≤ L.length := by
  have := List.length_filter_le (fun c => trC p c == t) L
  unfold cntT; omega
theorem cntT_hit {p : Int} {L : List (Int × Int)} {k : Nat} (hk : k < L.length) : cntT p (L.take (k + 1)) (trC p L[k]) = cntT p (L.take k) (trC p L[k]) + 1 := by
  unfold cntT
  rw [List.take_succ_eq_append_getElem hk, List.filter_append]
  simp
theorem cntT_miss {p t : Int} {L : List (Int × Int)} {k : Nat} (hk : k < L.length) (h : t ≠ trC p L[k]) : cntT p (L.take (k + 1)) t = cntT p (L.take k) t := by
  unfold cntT
  rw [List.take_succ_eq_append_getElem hk, List.filter_append]
  have : (trC p L[k] == t) = false := by simpa using fun e => h e.symm
  simp [this]
def rowsTo (f : Int → Int) (lo : Int) : Nat → List (Int × Int)
  | 0 => []
  | k + 1 => if 0 < f (lo + k) then rowsTo f lo k ++ [(lo + k, f (lo + k))] else rowsTo f lo k
theorem rowsTo_len (f : Int → Int) (lo : Int) : ∀ k, (rowsTo f lo k).length ≤ k
  | 0 => Nat.le_refl _
  | k + 1 => by
    have := rowsTo_len f lo k
    unfold rowsTo
    split <;> simp <;> omega
theorem rowsTo_no {f : Int → Int} {lo : Int} {k : Nat} (h : ¬ 0 < f (lo + k)) : rowsTo f lo (k + 1) = rowsTo f lo k := by rw [rowsTo, if_neg h]
theorem rowsTo_yes {f : Int → Int} {lo : Int} {k : Nat} (h : 0 < f (lo + k)) : rowsTo f lo (k + 1) = rowsTo f lo k ++ [(lo + k, f (lo + k))] := by rw [rowsTo, if_pos h]
theorem tr_bd {p : Int} (hp : tabP p = true) {c : Int × Int} : -p ≤ trC p c ∧ trC p c ≤ p := by
  obtain ⟨h5, h31, hpr⟩ := tabP_of hp
  have := cntV_bd (A := c.1) (B := c.2) hpr (by omega)
  unfold trC trV; omega
noncomputable def ttL (p : Int) : List (Int × Int) := if tabP p then rowsTo (cntT p (tabL p)) (-2 * p) (4 * p).toNat else []
theorem ttL_len (p : Int) : (ttL p).length ≤ 1000 := by
  unfold ttL
  split
  · rename_i h
    have := tabP_of h
    have := rowsTo_len (cntT p (tabL p)) (-2 * p) (4 * p).toNat
    omega
  · simp
theorem ttL_one {p : Int} (hp : tabP p = true) : rowsTo (cntT p (tabL p)) (-2 * p) ((4 * p).toNat + 1) = rowsTo (cntT p (tabL p)) (-2 * p) (4 * p).toNat := by
  have h5 := tabP_of hp
  apply rowsTo_no
  have e : cntT p (tabL p) (-2 * p + ((4 * p).toNat : Nat)) = 0 := by
    unfold cntT
    have : (tabL p).filter (fun c => trC p c == (-2 * p + ((4 * p).toNat : Nat))) = [] := by
      rw [List.filter_eq_nil_iff]
      intro c _
      have := tr_bd hp (c := c)
      simp only [beq_iff_eq]
      omega
    rw [this]; rfl
  rw [e]; decide
def cntL (p : Int) (N : Nat) (L : List (Int × Int)) : List Int := (List.range N).map fun (i : Nat) => cntT p L ((i : Int) - 2 * p)
theorem cntL_len (p : Int) (N : Nat) (L : List (Int × Int)) : (cntL p N L).length = N := by simp [cntL]
theorem cntL_get (p : Int) (N : Nat) (L : List (Int × Int)) (i : Nat) (h : i < N) : (cntL p N L)[i]?.getD 0 = cntT p L ((i : Int) - 2 * p) := by simp [cntL, h]
theorem cntL_nil (p : Int) (N : Nat) : cntL p N [] = List.replicate N 0 := by
  apply List.ext_getElem
  · simp [cntL]
  · intro i h1 h2; simp [cntL, cntT]
theorem cntL_step {p : Int} {N : Nat} {L : List (Int × Int)} {k j : Nat} (hk : k < L.length) (_ : j < N) (h : (j : Int) - 2 * p = trC p L[k]) :
    (cntL p N (L.take k)).set j (cntT p (L.take k) ((j : Int) - 2 * p) + 1) = cntL p N (L.take (k + 1)) := by
  apply List.ext_getElem
  · simp [cntL]
  · intro i h1 h2
    have hi : i < N := by simpa [cntL] using h2
    rw [List.getElem_set]
    split
    · rename_i e
      subst e
      simp only [cntL, List.getElem_map, List.getElem_range]
      rw [h]
      exact (cntT_hit hk).symm
    · rename_i e
      simp only [cntL, List.getElem_map, List.getElem_range]
      exact (cntT_miss hk (by rw [← h]; omega)).symm
theorem made_ints (n : Nat) : (madeCells (Value.int .i64 0).cells (n * 1)).toList = (List.replicate n (0 : Int)).map (Value.int .i64) := by
  rw [Nat.mul_one]
  show (madeCells #[Value.int .i64 0] n).toList = _
  rw [toList_madeCells_one, List.map_replicate]
theorem Over.toBelow {B n : Nat} {a W w : World} (h : Over [B] W w) (hb : Below n a W) (hn : n ≤ B) (hs : n ≤ W.heap.size) : Below n a w :=
  ⟨h.os.trans hb.os, h.tape.trans hb.tape, h.output.trans hb.output, Nat.le_trans hb.size h.size, fun k hk => (h.block k (by omega) (by simp; omega)).trans (hb.block k hk)⟩
def QPost (w : World) (L : List (Int × Int)) (b : Bool) (e : Ending) (w' : World) : Prop := ∃ v gs, e = .returned (.tuple #[v, .bool b]) ∧ OwnsQ w' w.heap.size v gs L ∧ Below w.heap.size w w'
set_option maxHeartbeats 4000000 in
set_option maxRecDepth 100000 in
theorem c_sTraceTable (p : Int) (w : World) : Calls Try.prog 8 #[.int .i64 p] w (QPost w (ttL p) (tabP p)) := by
  unfold ttL
  cases hh : tabP p
  · go_enter Try.func8, Try.ntmps8
    go_wp2_with ((go_at_call 39; refine (c_ctPrime _ _).mono ?_; rintro e w' ⟨rfl, rfl⟩))
    go_ret2
    exact ⟨_, [], rfl, OwnsQ.nil _ _, Below.refl _ _⟩
  · rw [if_pos rfl]
    obtain ⟨h5, h31, hpr⟩ := tabP_of hh
    have hlen := tabL_len (p := p) (by omega)
    have HP1 := Lib.hid hh
    have HP := Lib.hid hpr
    obtain ⟨N, hN, hNt⟩ : ∃ N : Nat, 4 * p = (N : Int) ∧ (4 * p).toNat = N := ⟨(4 * p).toNat, by omega, rfl⟩
    rw [hNt]
    have hNb : N ≤ 124 := by omega
    have HM : Hid (∀ k (h : k < (tabL p).length), (0 ≤ (tabL p)[k].1 ∧ (tabL p)[k].1 ≤ p - 1) ∧ (0 ≤ (tabL p)[k].2 ∧ (tabL p)[k].2 ≤ p - 1)) := fun k h => ⟨(tabL_mem (List.getElem_mem h)).1, (tabL_mem (List.getElem_mem h)).2.1⟩
    obtain ⟨i0, hi, hz0, hz1, hz2⟩ := info_parts Try.infoI
    obtain ⟨wm, hmk, hown, hg⟩ := run_make_full (P := Try.prog) w w.heap.size 33 3 i0 (.int .i64 0) 1 Try.underlying33 hi hz0 hz1 .i64 .i64 N (by rw [hz2]; omega) (by unfold maxLen; omega) (Nat.le_refl _)
    rw [made_ints] at hown
    have ho0 : OwnsI wm w.heap.size (.slice (some ⟨w.heap.size, 0, none⟩) N N) (cntL p N []) := by
      unfold OwnsI
      rw [cntL_nil, List.length_replicate]
      exact hown
    have hb0 : Below w.heap.size w wm := ⟨hg.os, hg.tape, hg.output, hg.size, fun k hk => hg.block k hk (by simp)⟩
    clear hown hi hz0 hz1 hz2 hg hpr hNt
    generalize hbb : w.heap.size = B at hmk ho0 hb0 ⊢
    have HB := Lib.hid hbb
    clear hbb
    go_enter Try.func8, Try.ntmps8
    go_wp2_with ((go_at_call 39; refine (c_ctPrime _ _).mono ?_; rintro e w' ⟨rfl, rfl⟩))
    clear hh hmk
    refine (c_ctAll _ HP1.out _).mono ?_
    rintro e w1 ⟨v, rfl, hownT, hb1⟩
    have hz1 := hb1.size
    have ho1 := OwnsI.below ho0 hb1
    have hBl : B < wm.heap.size := by
      obtain ⟨a9, cap9, hv9, hf9⟩ := OwnsI.form ho0
      obtain ⟨g9, e9, _, hg9, _⟩ := hf9 0 (by rw [cntL_len]; omega)
      simp only [Value.slice.injEq] at hv9
      rw [← hv9.1] at e9
      have : B = g9 := by simpa using e9
      omega
    have hB1 := hb0.trans (hb1.mono (B' := B) (by omega))
    obtain ⟨a, cap, rfl, hform⟩ := OwnsP.form hownT
    have HF := Lib.hid hform
    clear hform hownT ho0 hb0 hb1
    go_wp2
    go_loopw [19] (fun i wr => ∃ k : Nat, k ≤ (tabL p).length ∧ i = .int .i64 k ∧ OwnsI wr B (.slice (some ⟨B, 0, none⟩) N N) (cntL p N ((tabL p).take k)) ∧ Over [B] w1 wr) (fun i _ => (tabL p).length - (intOf i).toNat)
    case atStart => exact ⟨0, Nat.zero_le _, rfl, by simpa using ho1, Over.refl _ _⟩
    case round =>
      clear ho1
      obtain ⟨k, hk, rfl, ho, hov⟩ := hrel
      have hzr := hov.size
      by_cases hlt : k < (tabL p).length
      · obtain ⟨g, rfl, q1, q2, _, hg, hgb⟩ := HF.out k hlt
        have hm := HM.out k hlt
        have hgB : g ≠ B := by omega
        have d1 : wr.cell? ⟨g, k * 2, none⟩ = _ := (hov.cell (p := ⟨g, k * 2, none⟩) hg (by simpa using hgB)).trans q1
        have d2 : wr.cell? ⟨g, k * 2 + 1, none⟩ = _ := (hov.cell (p := ⟨g, k * 2 + 1, none⟩) hg (by simpa using hgB)).trans q2
        have htr := tr_bd HP1.out (c := (tabL p)[k])
        obtain ⟨j, hj, hjN⟩ : ∃ j : Nat, 2 * p + trC p (tabL p)[k] = (j : Int) ∧ j < N := ⟨(2 * p + trC p (tabL p)[k]).toNat, by omega, by omega⟩
        have HS := Lib.hid (cntL_step (p := p) (N := N) hlt hjN (by omega))
        have hcb := cntT_bd p ((tabL p).take k) ((j : Int) - 2 * p)
        have hgt := cntL_get p N ((tabL p).take k) j hjN
        rw [List.length_take, Nat.min_eq_left hk] at hcb
        have hm1 := c_ctTrace (tabL p)[k].1 (tabL p)[k].2 p (by omega) (by omega) (by omega) HP.out
        have hjt : 2 * p + trV (tabL p)[k].1 (tabL p)[k].2 p = (j : Int) := hj
        generalize cntT p ((tabL p).take k) ((j : Int) - 2 * p) = n at *
        generalize trV (tabL p)[k].1 (tabL p)[k].2 p = t at *
        generalize (tabL p)[k] = c at d1 d2 hm hm1
        obtain ⟨x, y⟩ := c
        simp only at d1 d2 hm hm1
        have HK := Lib.hid hm1
        clear q1 q2 hj htr hm1
        go_wp2_with fail
        refine (HK.out _).mono ?_
        rintro e w2 ⟨rfl, hb2⟩
        have hb3 : Below wr.heap.size wr w2 := below_step hb2 (by simp) ((Below.refl _ _).alloc (Nat.le_refl _) _)
        have ho3 := OwnsI.below ho hb3
        obtain ⟨a9, cap9, hv9, hf9⟩ := OwnsI.form ho3
        obtain ⟨g9, e9, s1, hg9, _⟩ := hf9 j (by rw [cntL_len]; exact hjN)
        simp only [Value.slice.injEq] at hv9
        rw [← hv9.1] at e9
        obtain rfl : B = g9 := by simpa using e9
        rw [hgt] at s1
        have f1 : w2.frozen? ⟨B, j, none⟩ = false := by
          rcases ho3.2 with ⟨h0, _⟩ | ⟨g', cap', cur, hv, _, hh, _⟩
          · cases h0
          · simp only [Value.slice.injEq] at hv
            have e8 : B = g' := by simpa using hv.1
            subst e8
            simp [World.frozen?, hh]
        have ho4 : OwnsI (w2.setCell ⟨B, j, none⟩ (.int .i64 (n + 1))) B (.slice (some ⟨B, 0, none⟩) N N) (cntL p N ((tabL p).take (k + 1))) := by
          rw [← HS.out]
          unfold OwnsI at ho3 ⊢
          rw [cntL_len] at ho3
          rw [List.length_set, cntL_len, List.map_set]
          exact own_set ho3 rfl j _
        have hov2 : Over [B] w1 (w2.setCell ⟨B, j, none⟩ (.int .i64 (n + 1))) := (hov.next hb3).setCell (.inr (by simp)) _
        have HR := Lib.hid (And.intro ho4 hov2)
        have hn1 : 0 ≤ n ∧ n ≤ 1000 := by omega
        clear ho4 hov2 hf9 hv9 e9 ho ho3 d1 d2 hgt hcb
        go_wp2
        go_roundw
        case rel => exact ⟨k + 1, by omega, by go_num, HR.out.1, HR.out.2⟩
        case measure => simp [intOf]; omega
      · obtain rfl : k = (tabL p).length := by omega
        rw [List.take_length] at ho
        have hBw := Over.toBelow hov hB1 (Nat.le_refl _) (by omega)
        clear hov hB1
        have hfb := fun t => cntT_bd p (tabL p) t
        have hgt := cntL_get p N (tabL p)
        have hN2 : (4 : Int) * p = (N : Int) := hN
        generalize cntT p (tabL p) = f at *
        obtain ⟨a9, cap9, hv9, hf9⟩ := OwnsI.form ho
        rw [cntL_len] at hf9
        have HG := Lib.hid hgt
        have HFB := Lib.hid hfb
        have HF9 : Hid (∀ i, i < N → wr.cell? ⟨B, i, none⟩ = some (.int .i64 (f ((i : Int) - 2 * p))) ∧ B < wr.heap.size) := by
          intro i hi
          obtain ⟨g9, e9, s1, hg9, _⟩ := hf9 i hi
          simp only [Value.slice.injEq] at hv9
          rw [← hv9.1] at e9
          obtain rfl : B = g9 := by simpa using e9
          rw [HG.out i hi] at s1
          exact ⟨s1, hg9⟩
        have hs0 := hBw.size
        clear ho hgt hfb hv9 hf9
        go_wp2
        go_loopw [7, 37] (fun out i w2 => ∃ (j : Nat) (gs : List Nat), j ≤ N ∧ i = .int .i64 j ∧ OwnsQ w2 wr.heap.size out gs (rowsTo f (-2 * p) j) ∧ Below wr.heap.size wr w2) (fun _ i _ => N - (intOf i).toNat)
        case atStart => exact ⟨0, [], Nat.zero_le _, rfl, OwnsQ.nil _ _, Below.refl _ _⟩
        case round =>
          obtain ⟨j, gs, hj, rfl, hoq, hb2⟩ := hrel
          rename World => w2
          have hs2 := hb2.size
          by_cases hlt2 : j < N
          · obtain ⟨s1, hgB⟩ := HF9.out j hlt2
            have d1 : w2.cell? ⟨B, j, none⟩ = _ := (hb2.cell (p := ⟨B, j, none⟩) hgB).trans s1
            have hfj := HFB.out ((j : Int) - 2 * p)
            have e1 : -2 * p + (j : Int) = (j : Int) - 2 * p := by omega
            have hrl := rowsTo_len f (-2 * p) j
            clear s1
            by_cases hpos : 0 < f ((j : Int) - 2 * p)
            · have HY := Lib.hid (rowsTo_yes (f := f) (lo := -2 * p) (k := j) (by rw [e1]; exact hpos))
              rw [e1] at HY
              generalize f ((j : Int) - 2 * p) = n at *
              go_wp2_with (at_builtin; refine wpList_appQ (c := (j : Int) - 2 * p) (d := n) rfl _ _ rfl wr.heap.size _ gs _ rfl hoq rfl (by omega) hs2 ?_; intro v' w4 ho4 hb4)
              have hb5 := hb2.trans hb4
              go_wp2
              go_roundw
              case rel => exact ⟨j + 1, _, by omega, by go_num, by rw [HY.out]; exact ho4, hb5⟩
              case measure => simp [intOf]; omega
            · have HN' := Lib.hid (rowsTo_no (f := f) (lo := -2 * p) (k := j) (by rw [e1]; exact hpos))
              generalize f ((j : Int) - 2 * p) = n at *
              go_wp2
              go_roundw
              case rel => exact ⟨j + 1, gs, by omega, by go_num, by rw [HN'.out]; exact hoq, hb2⟩
              case measure => simp [intOf]; omega
          · obtain rfl : j = N := by omega
            go_wp2
            go_ret2
            have hBB := HB.out
            refine ⟨_, gs, rfl, ?_, ?_⟩
            · rw [hBB]
              exact hoq.le (by omega)
            · rw [hBB]
              exact hBw.trans (hb2.mono (by omega))
end Go.Proofs.Ytilgeeaobdebhaa
