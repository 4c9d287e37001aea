/- Walks: is it a whole (l1All, bgGood, bgIf), for wholes in digits. -/
import Derived.Test.YtmlfkceafkhlaaaDoorBgX
namespace Go.Proofs.YtmlfkceafkhlaaaDoor
open Go.RowKit

theorem inB_in {n lo hi : Int} (h : lo ≤ n ∧ n ≤ hi) : inB n lo hi = true := by simp [inB]; omega
theorem c_l1All (L : List Int) (lo hi : Int) (v : Value) (hL : ∀ x ∈ L, lo ≤ x ∧ x ≤ hi) (hl : L.length ≤ 100000) (w : World) (h : RdL w v L) :
    Calls Tryd.prog 44 #[v, .int .i64 lo, .int .i64 hi] w fun e w' => e = .returned (.bool true) ∧ w = w' := by
  obtain ⟨a, cap, rfl, _, hc⟩ := h
  have HC : Hid (∀ i, i < L.length → ∃ g o x, a = some ⟨g, o, none⟩ ∧ w.cell? ⟨g, o + i, none⟩ = some (.int .i64 x) ∧ inB x lo hi = true) := fun i hi => by
    obtain ⟨g, o, h1, h2, _⟩ := hc i hi
    refine ⟨g, o, _, h1, h2, inB_in (hL _ ?_)⟩
    rw [List.getElem?_eq_getElem hi]
    exact List.getElem_mem hi
  clear hc
  generalize L.length = n at *
  go_enter Tryd.func44, Tryd.ntmps44
  go_wp2
  go_loopw [11] (fun iv wr => ∃ i : Nat, i ≤ n ∧ iv = .int .i64 i ∧ w = wr) (fun iv _ => n - (intOf iv).toNat)
  case atStart => exact ⟨0, by omega, rfl, rfl⟩
  case round =>
    obtain ⟨i, hin, rfl, rfl⟩ := hrel
    by_cases hlt : i < n
    · obtain ⟨g, o, x, rfl, q, hx⟩ := HC.out i hlt
      have HX := Lib.hid hx
      have HQ : Hid (Calls Tryd.prog 12 #[.int .i64 x, .int .i64 lo, .int .i64 hi] w fun e w' => e = .returned (.bool true) ∧ w = w') := (c_l1In x lo hi w).mono fun e w' h => ⟨h.1.trans (by rw [hx]), h.2⟩
      clear hx HC
      go_wp2_with fail
      refine HQ.out.mono ?_
      rintro e w1 ⟨rfl, rfl⟩
      go_wp2
      go_roundw
      case rel => exact ⟨i + 1, by omega, by go_num, trivial⟩
      case measure => simp [intOf]; omega
    · obtain rfl : i = n := by omega
      go_wp2
      go_ret
      exact ⟨rfl, rfl⟩
set_option maxHeartbeats 1000000 in
set_option maxRecDepth 20000 in
theorem c_bgGood (K : Int) (a : Value) (hl : (dg K.natAbs).length ≤ 100000) (w : World) (ha : WhR K a w) :
    Calls Tryd.prog 25 #[a] w fun e w' => e = .returned (.bool (okW K)) ∧ Below w.heap.size w w' := by
  obtain ⟨la, rfl, hr⟩ := ha
  have hD := dg_Dg K.natAbs
  have hb0 : Below w.heap.size w (w.alloc (.cells #[.bool (decide (K < 0)), la] 31)) := (Below.refl _ _).alloc (Nat.le_refl _) _
  have kA := Blk.new w #[.bool (decide (K < 0)), la] 31
  have hr0 := hr.below hb0
  have HALL : Hid (∀ W, RdL W la (dg K.natAbs) → Calls Tryd.prog 44 #[la, .int .i64 0, .int .i64 9999] W fun e w' => e = .returned (.bool true) ∧ W = w') := fun W hW => c_l1All _ 0 9999 la hD.1 hl W hW
  have HR0 := Lib.hid hr0
  obtain ⟨ra, cap, rfl, _, hc⟩ := hr0
  clear hr
  by_cases h4 : (dg K.natAbs).length ≤ 400
  · have hok : okW K = true := by simp [okW, h4]
    rw [hok]
    have h4' : ((dg K.natAbs).length : Int) ≤ 400 := by omega
    have h0 : (dg K.natAbs) = [] ∨ (dg K.natAbs) ≠ [] := by by_cases h : dg K.natAbs = [] <;> simp [h]
    rcases h0 with h0 | h0
    · have hK0 : K = 0 := by have := dg_nil.1 h0; omega
      subst hK0
      have hn0 : ((dg (Int.natAbs 0)).length : Int) = 0 := by rw [h0]; rfl
      have hnn : decide ((0 : Int) < 0) = false := rfl
      rw [hnn] at hb0 kA HR0 ⊢
      have hn00 : (dg (Int.natAbs 0)).length = 0 := by omega
      rw [hn00] at HALL HR0 kA hb0 ⊢
      clear hn0 h4 h4' hl hok hD hc
      go_enter Tryd.func25, Tryd.ntmps25
      go_upto_region 1 with (fail)
      generalize w.alloc _ = W at *
      have a0 : W.cell? ⟨w.heap.size, 0, none⟩ = some (.bool false) := kA.cell 0
      have a1 : W.cell? ⟨w.heap.size, 1, none⟩ = some (.slice ra 0 cap) := kA.cell 1
      go_wp2_with fail
      refine (HALL.out W (by rw [h0]; exact HR0.out |> fun h => by rw [h0] at h; exact h)).mono ?_
      rintro e w1 ⟨rfl, rfl⟩
      go_wp2
      go_ret
      exact ⟨rfl, hb0⟩
    · have hlast : ∃ g o x, ra = some ⟨g, o, none⟩ ∧ (w.alloc (.cells #[.bool (decide (K < 0)), .slice ra (dg K.natAbs).length cap] 31)).cell? ⟨g, o + ((dg K.natAbs).length - 1), none⟩ = some (.int .i64 x) ∧ 0 < x := by
        have hpos := List.length_pos_iff.2 h0
        obtain ⟨g, o, h1, h2, _⟩ := hc ((dg K.natAbs).length - 1) (by omega)
        refine ⟨g, o, _, h1, h2, ?_⟩
        rw [List.getElem?_eq_getElem (by omega)]
        have hx := hD.2.1 h0
        rw [List.getLast_eq_getElem] at hx
        have := hD.1 _ (List.getElem_mem (show (dg K.natAbs).length - 1 < (dg K.natAbs).length by omega))
        simp only [Option.getD_some]
        omega
      obtain ⟨g, o, x, rfl, qx, hx⟩ := hlast
      have hpos : 0 < (dg K.natAbs).length := List.length_pos_iff.2 h0
      have hge : (1 : Int) ≤ ((dg K.natAbs).length : Int) := by omega
      have hgt : (0 : Int) < ((dg K.natAbs).length : Int) := by omega
      have hne : ¬ ((dg K.natAbs).length : Int) = 0 := by omega
      have HR1 := Lib.hid (HALL.out _ HR0.out)
      clear hc HR0 HALL hD hok h0
      generalize hN : (dg K.natAbs).length = N at *
      obtain ⟨j, rfl⟩ : ∃ j, N = j + 1 := ⟨N - 1, by omega⟩
      have hj : ((j + 1 : Nat) : Int) - 1 = (j : Int) := by omega
      rw [Nat.add_sub_cancel] at qx
      clear hN hl h4
      generalize decide (K < 0) = sg at *
      go_enter Tryd.func25, Tryd.ntmps25
      go_upto_region 1 with (fail)
      generalize w.alloc _ = W at *
      have a0 : W.cell? ⟨w.heap.size, 0, none⟩ = some (.bool sg) := kA.cell 0
      have a1 : W.cell? ⟨w.heap.size, 1, none⟩ = some (.slice (some ⟨g, o, none⟩) (j + 1) cap) := kA.cell 1
      go_wp2_with fail
      refine HR1.out.mono ?_
      rintro e w1 ⟨rfl, rfl⟩
      go_wp2
      go_ret
      exact ⟨rfl, hb0⟩
  · have hok : okW K = false := by simp [okW]; omega
    rw [hok]
    have h4' : ¬ ((dg K.natAbs).length : Int) ≤ 400 := by omega
    have h4'' : (400 : Int) < ((dg K.natAbs).length : Int) := by omega
    clear hc HR0 HALL hD hok hl h4
    generalize (dg K.natAbs).length = N at *
    generalize decide (K < 0) = sg at *
    go_enter Tryd.func25, Tryd.ntmps25
    go_upto_region 1 with (fail)
    generalize w.alloc _ = W at *
    have a0 : W.cell? ⟨w.heap.size, 0, none⟩ = some (.bool sg) := kA.cell 0
    have a1 : W.cell? ⟨w.heap.size, 1, none⟩ = some (.slice ra N cap) := kA.cell 1
    go_wp2
    go_ret
    exact ⟨rfl, hb0⟩
set_option maxHeartbeats 1000000 in
set_option maxRecDepth 20000 in
theorem c_bgIf (base : Nat) (K : Int) (a : Value) (hl : (dg K.natAbs).length ≤ 100000) (w : World) (ha : Wh base K a w) :
    Calls Tryd.prog 13 #[a] w (ResP base K w) := by
  obtain ⟨la, rfl, hr⟩ := ha
  have hrr := Lib.hid hr
  obtain ⟨sl, scap, rfl, _⟩ := id hr.1
  have hb0 : Below w.heap.size w ((w.alloc (.cells #[.bool (decide (K < 0)), .slice sl (dg K.natAbs).length scap] 31)).alloc (.cells #[.bool false, .slice none 0 0] 31)) := ((Below.refl _ _).alloc (Nat.le_refl _) _).alloc (by simp) _
  have kA := (Blk.new w #[.bool (decide (K < 0)), .slice sl (dg K.natAbs).length scap] 31).alloc (.cells #[.bool false, .slice none 0 0] 31)
  have kS := Blk.new (w.alloc (.cells #[.bool (decide (K < 0)), .slice sl (dg K.natAbs).length scap] 31)) #[.bool false, .slice none 0 0] 31
  simp only [World.size_alloc] at kS
  have hr1 := hr.1.below hb0
  have HG : Hid (∀ W, RdL W (.slice sl (dg K.natAbs).length scap) (dg K.natAbs) → Calls Tryd.prog 25 #[.agg #[.bool (decide (K < 0)), .slice sl (dg K.natAbs).length scap]] W fun e w' => e = .returned (.bool (okW K)) ∧ Below W.heap.size W w') := fun W h => c_bgGood K _ hl W ⟨_, rfl, h⟩
  have HR1 := Lib.hid hr1
  have hsz := hb0.size
  clear hr hr1
  go_enter Tryd.func13, Tryd.ntmps13
  go_upto_region 1 with (fail)
  generalize (w.alloc _).alloc _ = W at *
  have a0 : W.cell? ⟨w.heap.size, 0, none⟩ = some (.bool (decide (K < 0))) := kA.cell 0
  have a1 : W.cell? ⟨w.heap.size, 1, none⟩ = some (.slice sl (dg K.natAbs).length scap) := kA.cell 1
  generalize hrs : w.heap.size + 1 = rs at *
  have hrs2 : w.heap.size ≤ rs := by omega
  clear hrs
  go_wp2_with fail
  refine (HG.out W HR1.out).mono ?_
  rintro e w1 ⟨rfl, hb1⟩
  have kA1 := kA.next hb1
  have kS1 := kS.next hb1
  have hbb : Below w.heap.size w w1 := below_step hb1 hsz hb0
  clear kA kS a0 a1 HG HR1 hb1
  have c0 : w1.cell? ⟨rs, 0, none⟩ = some (.bool false) := kS1.cell 0
  have c1 : w1.cell? ⟨rs, 1, none⟩ = some (.slice none 0 0) := kS1.cell 1
  have a0 : w1.cell? ⟨w.heap.size, 0, none⟩ = some (.bool (decide (K < 0))) := kA1.cell 0
  have a1 : w1.cell? ⟨w.heap.size, 1, none⟩ = some (.slice sl (dg K.natAbs).length scap) := kA1.cell 1
  have z0 := kS1.frozen 0
  have z1 := kS1.frozen 1
  have kSl := kS1.lt
  by_cases hk : okW K = true
  · rw [hk]
    have HK := Lib.hid hk
    clear hk
    have k9 := (kS1.set 0 (.bool (decide (K < 0)))).set 1 (.slice sl (dg K.natAbs).length scap)
    have hB9 : Below w.heap.size w ((w1.setCell ⟨rs, 0, none⟩ (.bool (decide (K < 0)))).setCell ⟨rs, 1, none⟩ (.slice sl (dg K.natAbs).length scap)) := (hbb.setCell (by simpa using hrs2) _).setCell (by simpa using hrs2) _
    have hW9 : RdO ((w1.setCell ⟨rs, 0, none⟩ (.bool (decide (K < 0)))).setCell ⟨rs, 1, none⟩ (.slice sl (dg K.natAbs).length scap)) base (.slice sl (dg K.natAbs).length scap) (dg K.natAbs) := ⟨hrr.out.1.below hB9, fun hn => (hrr.out.2 hn).below hB9⟩
    go_wp2
    generalize (World.setCell (World.setCell _ _ _) _ _) = w9 at hB9 k9 hW9 ⊢
    have q0 : w9.cell? ⟨rs, 0, none⟩ = some (.bool (decide (K < 0))) := k9.cell 0
    have q1 : w9.cell? ⟨rs, 1, none⟩ = some (.slice sl (dg K.natAbs).length scap) := k9.cell 1
    refine bodyPost_ret (v := .tuple #[.agg #[.bool (decide (K < 0)), .slice sl (dg K.natAbs).length scap], .bool true]) (by simp [results, Tryd.results13, go_sem, q0, q1]) rfl ?_
    unfold ResP
    rw [HK.out]
    exact ⟨_, rfl, ⟨_, rfl, hW9⟩, hB9⟩
  · have hk' : okW K = false := by simpa using hk
    rw [hk']
    have HK := Lib.hid hk'
    clear hk hk'
    have k9 := (kS1.set 0 (.bool false)).set 1 (.slice none 0 0)
    have hB9 : Below w.heap.size w ((w1.setCell ⟨rs, 0, none⟩ (.bool false)).setCell ⟨rs, 1, none⟩ (.slice none 0 0)) := (hbb.setCell (by simpa using hrs2) _).setCell (by simpa using hrs2) _
    go_wp2
    generalize (World.setCell (World.setCell _ _ _) _ _) = w9 at hB9 k9 ⊢
    have q0 : w9.cell? ⟨rs, 0, none⟩ = some (.bool false) := k9.cell 0
    have q1 : w9.cell? ⟨rs, 1, none⟩ = some (.slice none 0 0) := k9.cell 1
    refine bodyPost_ret (v := .tuple #[.agg #[.bool false, .slice none 0 0], .bool false]) (by simp [results, Tryd.results13, go_sem, q0, q1]) rfl ?_
    have hz : dg (Int.natAbs 0) = [] := dg_zero
    unfold ResP
    rw [HK.out]
    simp only [Bool.false_eq_true, if_false]
    exact ⟨_, rfl, ⟨_, rfl, by rw [hz]; exact ⟨⟨none, 0, rfl, Nat.le_refl _, fun i hi => by simp at hi⟩, fun h => absurd rfl h⟩⟩, hB9⟩
end Go.Proofs.YtmlfkceafkhlaaaDoor
