/- Walks: division values as wholes (dpExact, DivisionWhole of both sides). -/
import Derived.Test.YtmlfkceafkhlaaaDoorDwI
import Derived.Test.YtmlfkceafkhlaaaDoorDwW
import Derived.Test.YtmlfkceafkhlaaaDoorBgG
namespace Go.Proofs.YtmlfkceafkhlaaaDoor
open Go.RowKit

def WhRes (K : Int) (b : Bool) (w : World) (e : Ending) (w' : World) : Prop := ∃ v, e = .returned (.tuple #[v, .bool b]) ∧ Wh w.heap.size K v w' ∧ Below w.heap.size w w'
def dwOk (A B x n : Int) : Bool := curveB A B && inB x (-1000) 1000 && inB n 1 12
noncomputable def dwFine (A B x n : Int) : Bool := dwOk A B x n && okW (dwE A B x n.toNat)
noncomputable def dwVal (A B x n : Int) : Int := if dwFine A B x n then dwE A B x n.toNat else 0
theorem Wh.zero (base : Nat) (w : World) : Wh base 0 (.agg #[.bool false, .slice none 0 0]) w := by
  have hz : dg (Int.natAbs 0) = [] := dg_zero
  exact ⟨_, rfl, by rw [hz]; exact ⟨⟨none, 0, rfl, Nat.le_refl _, fun i hi => by simp at hi⟩, fun h => absurd rfl h⟩⟩
theorem curveB_bd {A B : Int} (h : curveB A B = true) : (-1000 ≤ A ∧ A ≤ 1000) ∧ (-10000 ≤ B ∧ B ≤ 10000) := by
  unfold curveB at h
  simp only [Bool.and_eq_true] at h
  exact ⟨inB_true h.1.1, inB_true h.1.2⟩
set_option maxHeartbeats 2000000 in
set_option maxRecDepth 20000 in
theorem c_dpExact (A B x n : Int) (w : World) :
    Calls Tryd.prog 7 #[.agg #[.int .i64 A, .int .i64 B], .int .i64 x, .int .i64 n] w (WhRes (dwVal A B x n) (dwFine A B x n) w) := by
  cases h1 : curveB A B
  · have ho : dwFine A B x n = false := by unfold dwFine dwOk; rw [h1]; rfl
    have hk : dwVal A B x n = 0 := by unfold dwVal; rw [ho]; rfl
    have HO := Lib.hid ho
    have HK := Lib.hid hk
    clear ho hk
    have HG : Hid (∀ W, Calls Tryd.prog 11 #[.agg #[.int .i64 A, .int .i64 B]] W fun e w' => e = .returned (.bool false) ∧ Below W.heap.size W w') := fun W => (c_ecGood A B W).mono fun e w' h => ⟨h.1.trans (by rw [h1]), h.2⟩
    clear h1
    have kC := (Blk.new w #[.int .i64 A, .int .i64 B] 26).alloc (.cells #[.bool false, .slice none 0 0] 31)
    have kR := Blk.new (w.alloc (.cells #[.int .i64 A, .int .i64 B] 26)) #[.bool false, .slice none 0 0] 31
    have hb0 : Below w.heap.size w ((w.alloc (.cells #[.int .i64 A, .int .i64 B] 26)).alloc (.cells #[.bool false, .slice none 0 0] 31)) := ((Below.refl _ _).alloc (Nat.le_refl _) _).alloc (by simp) _
    simp only [World.size_alloc] at kR
    have hsz := hb0.size
    go_enter Tryd.func7, Tryd.ntmps7
    go_upto_region 1 with (fail)
    generalize (w.alloc _).alloc _ = W at *
    generalize hrs : w.heap.size + 1 = rs at *
    have hrs2 : w.heap.size < rs := by omega
    clear hrs
    have kC0 : (W).cell? ⟨w.heap.size, 0, none⟩ = some (.int .i64 A) := kC.cell 0; have kC1 : (W).cell? ⟨w.heap.size, 1, none⟩ = some (.int .i64 B) := kC.cell 1; have kCl : w.heap.size < (W).heap.size := kC.lt
    go_wp2_with fail
    refine (HG.out _).mono ?_
    rintro e w1 ⟨rfl, hb1⟩
    have jC := kC.next hb1
    have kR1 := kR.next hb1
    have hbb : Below w.heap.size w w1 := below_step hb1 hsz hb0
    have hsz1 := hbb.size
    clear kC kR hb1 hb0 kC0 kC1 kCl
    have jC0 : (w1).cell? ⟨w.heap.size, 0, none⟩ = some (.int .i64 A) := jC.cell 0; have jC1 : (w1).cell? ⟨w.heap.size, 1, none⟩ = some (.int .i64 B) := jC.cell 1; have jCl : w.heap.size < (w1).heap.size := jC.lt
    have c0 : w1.cell? ⟨rs, 0, none⟩ = some (.bool false) := kR1.cell 0
    have c1 : w1.cell? ⟨rs, 1, none⟩ = some (.slice none 0 0) := kR1.cell 1
    have z0 := kR1.frozen 0
    have z1 := kR1.frozen 1
    have kRl := kR1.lt
    have k9 := (kR1.set 0 (.bool false)).set 1 (.slice none 0 0)
    have hB9 : Below w.heap.size w ((w1.setCell ⟨rs, 0, none⟩ (.bool false)).setCell ⟨rs, 1, none⟩ (.slice none 0 0)) := (hbb.setCell (by simp; omega) _).setCell (by simp; omega) _
    go_wp2_with ((go_at_call 12; refine (c_l1In _ _ _ _).mono ?_; rintro e w' ⟨rfl, rfl⟩))
    generalize (World.setCell (World.setCell _ _ _) _ _) = w9 at hB9 k9 ⊢
    have q0 : w9.cell? ⟨rs, 0, none⟩ = some (.bool false) := k9.cell 0
    have q1 : w9.cell? ⟨rs, 1, none⟩ = some (.slice none 0 0) := k9.cell 1
    refine bodyPost_ret (v := .tuple #[.agg #[.bool false, .slice none 0 0], .bool false]) (by simp [results, Tryd.results7, go_sem, q0, q1]) rfl ?_
    unfold WhRes
    rw [HO.out, HK.out]
    exact ⟨_, rfl, Wh.zero _ _, hB9⟩
  · have HG : Hid (∀ W, Calls Tryd.prog 11 #[.agg #[.int .i64 A, .int .i64 B]] W fun e w' => e = .returned (.bool true) ∧ Below W.heap.size W w') := fun W => (c_ecGood A B W).mono fun e w' h => ⟨h.1.trans (by rw [h1]), h.2⟩
    cases h2 : inB x (-1000) 1000
    · have ho : dwFine A B x n = false := by unfold dwFine dwOk; rw [h1, h2]; rfl
      have hk : dwVal A B x n = 0 := by unfold dwVal; rw [ho]; rfl
      have HO := Lib.hid ho
      have HK := Lib.hid hk
      clear ho hk h1
      have kC := (Blk.new w #[.int .i64 A, .int .i64 B] 26).alloc (.cells #[.bool false, .slice none 0 0] 31)
      have kR := Blk.new (w.alloc (.cells #[.int .i64 A, .int .i64 B] 26)) #[.bool false, .slice none 0 0] 31
      have hb0 : Below w.heap.size w ((w.alloc (.cells #[.int .i64 A, .int .i64 B] 26)).alloc (.cells #[.bool false, .slice none 0 0] 31)) := ((Below.refl _ _).alloc (Nat.le_refl _) _).alloc (by simp) _
      simp only [World.size_alloc] at kR
      have hsz := hb0.size
      go_enter Tryd.func7, Tryd.ntmps7
      go_upto_region 1 with (fail)
      generalize (w.alloc _).alloc _ = W at *
      generalize hrs : w.heap.size + 1 = rs at *
      have hrs2 : w.heap.size < rs := by omega
      clear hrs
      have kC0 : (W).cell? ⟨w.heap.size, 0, none⟩ = some (.int .i64 A) := kC.cell 0; have kC1 : (W).cell? ⟨w.heap.size, 1, none⟩ = some (.int .i64 B) := kC.cell 1; have kCl : w.heap.size < (W).heap.size := kC.lt
      go_wp2_with fail
      refine (HG.out _).mono ?_
      rintro e w1 ⟨rfl, hb1⟩
      have jC := kC.next hb1
      have kR1 := kR.next hb1
      have hbb : Below w.heap.size w w1 := below_step hb1 hsz hb0
      have hsz1 := hbb.size
      clear kC kR hb1 hb0 kC0 kC1 kCl
      have jC0 : (w1).cell? ⟨w.heap.size, 0, none⟩ = some (.int .i64 A) := jC.cell 0; have jC1 : (w1).cell? ⟨w.heap.size, 1, none⟩ = some (.int .i64 B) := jC.cell 1; have jCl : w.heap.size < (w1).heap.size := jC.lt
      have c0 : w1.cell? ⟨rs, 0, none⟩ = some (.bool false) := kR1.cell 0
      have c1 : w1.cell? ⟨rs, 1, none⟩ = some (.slice none 0 0) := kR1.cell 1
      have z0 := kR1.frozen 0
      have z1 := kR1.frozen 1
      have kRl := kR1.lt
      have k9 := (kR1.set 0 (.bool false)).set 1 (.slice none 0 0)
      have hB9 : Below w.heap.size w ((w1.setCell ⟨rs, 0, none⟩ (.bool false)).setCell ⟨rs, 1, none⟩ (.slice none 0 0)) := (hbb.setCell (by simp; omega) _).setCell (by simp; omega) _
      go_wp2_with ((go_at_call 12; refine (c_l1In _ _ _ _).mono ?_; rintro e w' ⟨rfl, rfl⟩))
      generalize (World.setCell (World.setCell _ _ _) _ _) = w9 at hB9 k9 ⊢
      have q0 : w9.cell? ⟨rs, 0, none⟩ = some (.bool false) := k9.cell 0
      have q1 : w9.cell? ⟨rs, 1, none⟩ = some (.slice none 0 0) := k9.cell 1
      refine bodyPost_ret (v := .tuple #[.agg #[.bool false, .slice none 0 0], .bool false]) (by simp [results, Tryd.results7, go_sem, q0, q1]) rfl ?_
      unfold WhRes
      rw [HO.out, HK.out]
      exact ⟨_, rfl, Wh.zero _ _, hB9⟩
    · cases h3 : inB n 1 12
      · have ho : dwFine A B x n = false := by unfold dwFine dwOk; rw [h1, h2, h3]; rfl
        have hk : dwVal A B x n = 0 := by unfold dwVal; rw [ho]; rfl
        have HO := Lib.hid ho
        have HK := Lib.hid hk
        clear ho hk h1
        have kC := (Blk.new w #[.int .i64 A, .int .i64 B] 26).alloc (.cells #[.bool false, .slice none 0 0] 31)
        have kR := Blk.new (w.alloc (.cells #[.int .i64 A, .int .i64 B] 26)) #[.bool false, .slice none 0 0] 31
        have hb0 : Below w.heap.size w ((w.alloc (.cells #[.int .i64 A, .int .i64 B] 26)).alloc (.cells #[.bool false, .slice none 0 0] 31)) := ((Below.refl _ _).alloc (Nat.le_refl _) _).alloc (by simp) _
        simp only [World.size_alloc] at kR
        have hsz := hb0.size
        go_enter Tryd.func7, Tryd.ntmps7
        go_upto_region 1 with (fail)
        generalize (w.alloc _).alloc _ = W at *
        generalize hrs : w.heap.size + 1 = rs at *
        have hrs2 : w.heap.size < rs := by omega
        clear hrs
        have kC0 : (W).cell? ⟨w.heap.size, 0, none⟩ = some (.int .i64 A) := kC.cell 0; have kC1 : (W).cell? ⟨w.heap.size, 1, none⟩ = some (.int .i64 B) := kC.cell 1; have kCl : w.heap.size < (W).heap.size := kC.lt
        go_wp2_with fail
        refine (HG.out _).mono ?_
        rintro e w1 ⟨rfl, hb1⟩
        have jC := kC.next hb1
        have kR1 := kR.next hb1
        have hbb : Below w.heap.size w w1 := below_step hb1 hsz hb0
        have hsz1 := hbb.size
        clear kC kR hb1 hb0 kC0 kC1 kCl
        have jC0 : (w1).cell? ⟨w.heap.size, 0, none⟩ = some (.int .i64 A) := jC.cell 0; have jC1 : (w1).cell? ⟨w.heap.size, 1, none⟩ = some (.int .i64 B) := jC.cell 1; have jCl : w.heap.size < (w1).heap.size := jC.lt
        have c0 : w1.cell? ⟨rs, 0, none⟩ = some (.bool false) := kR1.cell 0
        have c1 : w1.cell? ⟨rs, 1, none⟩ = some (.slice none 0 0) := kR1.cell 1
        have z0 := kR1.frozen 0
        have z1 := kR1.frozen 1
        have kRl := kR1.lt
        have k9 := (kR1.set 0 (.bool false)).set 1 (.slice none 0 0)
        have hB9 : Below w.heap.size w ((w1.setCell ⟨rs, 0, none⟩ (.bool false)).setCell ⟨rs, 1, none⟩ (.slice none 0 0)) := (hbb.setCell (by simp; omega) _).setCell (by simp; omega) _
        go_wp2_with ((go_at_call 12; refine (c_l1In _ _ _ _).mono ?_; rintro e w' ⟨rfl, rfl⟩))
        generalize (World.setCell (World.setCell _ _ _) _ _) = w9 at hB9 k9 ⊢
        have q0 : w9.cell? ⟨rs, 0, none⟩ = some (.bool false) := k9.cell 0
        have q1 : w9.cell? ⟨rs, 1, none⟩ = some (.slice none 0 0) := k9.cell 1
        refine bodyPost_ret (v := .tuple #[.agg #[.bool false, .slice none 0 0], .bool false]) (by simp [results, Tryd.results7, go_sem, q0, q1]) rfl ?_
        unfold WhRes
        rw [HO.out, HK.out]
        exact ⟨_, rfl, Wh.zero _ _, hB9⟩
      · have ho : dwFine A B x n = okW (dwE A B x n.toNat) := by unfold dwFine dwOk; rw [h1, h2, h3]; rfl
        have hk : dwVal A B x n = if okW (dwE A B x n.toNat) then dwE A B x n.toNat else 0 := by unfold dwVal; rw [ho]
        have HO := Lib.hid ho
        have HK := Lib.hid hk
        have hbd := curveB_bd h1
        have hx := inB_true h2
        have hn := inB_true h3
        clear ho hk h1
        obtain ⟨N, rfl⟩ := Int.eq_ofNat_of_zero_le (show 0 ≤ n by omega)
        rw [Int.toNat_natCast] at HO HK
        have hlen : (dg (dwE A B x N).natAbs).length ≤ 100000 := by
          have := (dw_sz hbd.1 hbd.2 hx (N - 4) (by omega) N).len
          unfold dwE
          omega
        have kC := (Blk.new w #[.int .i64 A, .int .i64 B] 26).alloc (.cells #[.bool false, .slice none 0 0] 31)
        have kR := Blk.new (w.alloc (.cells #[.int .i64 A, .int .i64 B] 26)) #[.bool false, .slice none 0 0] 31
        have hb0 : Below w.heap.size w ((w.alloc (.cells #[.int .i64 A, .int .i64 B] 26)).alloc (.cells #[.bool false, .slice none 0 0] 31)) := ((Below.refl _ _).alloc (Nat.le_refl _) _).alloc (by simp) _
        simp only [World.size_alloc] at kR
        have hsz := hb0.size
        go_enter Tryd.func7, Tryd.ntmps7
        go_upto_region 1 with (fail)
        generalize (w.alloc _).alloc _ = W at *
        generalize hrs : w.heap.size + 1 = rs at *
        have hrs2 : w.heap.size < rs := by omega
        clear hrs
        have kC0 : (W).cell? ⟨w.heap.size, 0, none⟩ = some (.int .i64 A) := kC.cell 0; have kC1 : (W).cell? ⟨w.heap.size, 1, none⟩ = some (.int .i64 B) := kC.cell 1; have kCl : w.heap.size < (W).heap.size := kC.lt
        go_wp2_with fail
        refine (HG.out _).mono ?_
        rintro e w1 ⟨rfl, hb1⟩
        have jC := kC.next hb1
        have kR1 := kR.next hb1
        have hbb : Below w.heap.size w w1 := below_step hb1 hsz hb0
        have hsz1 := hbb.size
        clear kC kR hb1 hb0 kC0 kC1 kCl
        have jC0 : (w1).cell? ⟨w.heap.size, 0, none⟩ = some (.int .i64 A) := jC.cell 0; have jC1 : (w1).cell? ⟨w.heap.size, 1, none⟩ = some (.int .i64 B) := jC.cell 1; have jCl : w.heap.size < (w1).heap.size := jC.lt
        have kRs := kR1.lt
        go_wp2_with ((go_at_call 12; refine (c_l1In _ _ _ _).mono ?_; rintro e w' ⟨rfl, rfl⟩))
        refine (c_dpWholes A B x N hbd.1 hbd.2 hx (by omega) _).mono ?_
        rintro e w2 ⟨v, j, rfl, hj, hj8, hD, hb2⟩
        have hE := dwE_of A B x j N hj
        obtain ⟨g, cap, rfl, _, _⟩ := hD.addr (by rw [dwL_len]; omega)
        rw [dwL_len] at hD ⊢
        obtain ⟨lv, q0, q1, hrE⟩ := (hD.elt (by omega)).2.2.2 N hj
        rw [hE] at q0 hrE
        have kR2 := kR1.next hb2
        have hbb2 : Below w.heap.size w w2 := below_step hb2 hsz1 hbb
        have i0 : (0 : Int) ≤ (N : Int) := by omega
        have i1 : (N : Int) < ((5 + j : Nat) : Int) := by omega
        generalize 5 + j = len at i1 ⊢
        have hsz2 := hbb2.size
        have HB := Lib.hid (c_bgIf w1.heap.size (dwE A B x N) (.agg #[.bool (decide (dwE A B x N < 0)), lv]) hlen w2 ⟨lv, rfl, hrE⟩)
        clear hD hb2 hE hrE kR1 hbb
        go_wp2_with fail
        refine HB.out.mono ?_
        rintro e w3 ⟨v3, rfl, hwh, hb3⟩
        obtain ⟨V, hV⟩ : ∃ V, (if okW (dwE A B x N) then dwE A B x N else 0) = V := ⟨_, rfl⟩
        rw [hV] at hwh
        have HV : Hid (dwVal A B x N = V) := HK.out.trans hV
        obtain ⟨fine, hfine⟩ : ∃ b, okW (dwE A B x N) = b := ⟨_, rfl⟩
        rw [hfine]
        have HF : Hid (dwFine A B x N = fine) := HO.out.trans hfine
        clear hV hfine HO HK
        obtain ⟨lv3, rfl, hr3⟩ := hwh
        obtain ⟨sl, scap, rfl, _⟩ := id hr3.1
        have kR3 := kR2.next hb3
        have hbb3 : Below w.heap.size w w3 := below_step hb3 hsz2 hbb2
        have c0 : w3.cell? ⟨rs, 0, none⟩ = some (.bool false) := kR3.cell 0
        have c1 : w3.cell? ⟨rs, 1, none⟩ = some (.slice none 0 0) := kR3.cell 1
        have z0 := kR3.frozen 0
        have z1 := kR3.frozen 1
        have kRl := kR3.lt
        have k9 := (kR3.set 0 (.bool (decide (V < 0)))).set 1 (.slice sl (dg V.natAbs).length scap)
        have hB9 : Below w.heap.size w ((w3.setCell ⟨rs, 0, none⟩ (.bool (decide (V < 0)))).setCell ⟨rs, 1, none⟩ (.slice sl (dg V.natAbs).length scap)) := (hbb3.setCell (by simp; omega) _).setCell (by simp; omega) _
        have ho8 := (hr3.set2 (S := rs) (by omega) (.bool (decide (V < 0))) (.slice sl (dg V.natAbs).length scap)).le (base' := w.heap.size) (by omega)
        clear hr3 hb3 kR2 hbb2
        go_wp2
        generalize (World.setCell (World.setCell _ _ _) _ _) = w9 at hB9 k9 ho8 ⊢
        have q0 : w9.cell? ⟨rs, 0, none⟩ = some (.bool (decide (V < 0))) := k9.cell 0
        have q1 : w9.cell? ⟨rs, 1, none⟩ = some (.slice sl (dg V.natAbs).length scap) := k9.cell 1
        refine bodyPost_ret (v := .tuple #[.agg #[.bool (decide (V < 0)), .slice sl (dg V.natAbs).length scap], .bool fine]) (by simp [results, Tryd.results7, go_sem, q0, q1]) rfl ?_
        unfold WhRes
        rw [HF.out, HV.out]
        exact ⟨_, rfl, ⟨_, rfl, ho8⟩, hB9⟩
set_option maxHeartbeats 2000000 in
set_option maxRecDepth 20000 in
theorem c_iDivisionWhole (A B x n : Int) (w : World) :
    Calls Tryd.prog 9 #[.agg #[.int .i64 A, .int .i64 B], .int .i64 x, .int .i64 n] w (WhRes (dwVal A B x n) (dwFine A B x n) w) := by
  cases h1 : curveB A B
  · have ho : dwFine A B x n = false := by unfold dwFine dwOk; rw [h1]; rfl
    have hk : dwVal A B x n = 0 := by unfold dwVal; rw [ho]; rfl
    have HO := Lib.hid ho
    have HK := Lib.hid hk
    clear ho hk
    have HG : Hid (∀ W, Calls Tryd.prog 16 #[.agg #[.int .i64 A, .int .i64 B]] W fun e w' => e = .returned (.bool false) ∧ Below W.heap.size W w') := fun W => (c_isCurve A B W).mono fun e w' h => ⟨h.1.trans (by rw [h1]), h.2⟩
    clear h1
    have kC := (Blk.new w #[.int .i64 A, .int .i64 B] 26).alloc (.cells #[.bool false, .slice none 0 0] 31)
    have kR := Blk.new (w.alloc (.cells #[.int .i64 A, .int .i64 B] 26)) #[.bool false, .slice none 0 0] 31
    have hb0 : Below w.heap.size w ((w.alloc (.cells #[.int .i64 A, .int .i64 B] 26)).alloc (.cells #[.bool false, .slice none 0 0] 31)) := ((Below.refl _ _).alloc (Nat.le_refl _) _).alloc (by simp) _
    simp only [World.size_alloc] at kR
    have hsz := hb0.size
    go_enter Tryd.func9, Tryd.ntmps9
    go_upto_region 1 with (fail)
    generalize (w.alloc _).alloc _ = W at *
    generalize hrs : w.heap.size + 1 = rs at *
    have hrs2 : w.heap.size < rs := by omega
    clear hrs
    have kC0 : (W).cell? ⟨w.heap.size, 0, none⟩ = some (.int .i64 A) := kC.cell 0; have kC1 : (W).cell? ⟨w.heap.size, 1, none⟩ = some (.int .i64 B) := kC.cell 1; have kCl : w.heap.size < (W).heap.size := kC.lt
    go_wp2_with fail
    refine (HG.out _).mono ?_
    rintro e w1 ⟨rfl, hb1⟩
    have jC := kC.next hb1
    have kR1 := kR.next hb1
    have hbb : Below w.heap.size w w1 := below_step hb1 hsz hb0
    have hsz1 := hbb.size
    clear kC kR hb1 hb0 kC0 kC1 kCl
    have jC0 : (w1).cell? ⟨w.heap.size, 0, none⟩ = some (.int .i64 A) := jC.cell 0; have jC1 : (w1).cell? ⟨w.heap.size, 1, none⟩ = some (.int .i64 B) := jC.cell 1; have jCl : w.heap.size < (w1).heap.size := jC.lt
    have c0 : w1.cell? ⟨rs, 0, none⟩ = some (.bool false) := kR1.cell 0
    have c1 : w1.cell? ⟨rs, 1, none⟩ = some (.slice none 0 0) := kR1.cell 1
    have z0 := kR1.frozen 0
    have z1 := kR1.frozen 1
    have kRl := kR1.lt
    have k9 := (kR1.set 0 (.bool false)).set 1 (.slice none 0 0)
    have hB9 : Below w.heap.size w ((w1.setCell ⟨rs, 0, none⟩ (.bool false)).setCell ⟨rs, 1, none⟩ (.slice none 0 0)) := (hbb.setCell (by simp; omega) _).setCell (by simp; omega) _
    go_wp2_with ((go_at_call 17; refine (c_inside _ _ _ _).mono ?_; rintro e w' ⟨rfl, rfl⟩))
    generalize (World.setCell (World.setCell _ _ _) _ _) = w9 at hB9 k9 ⊢
    have q0 : w9.cell? ⟨rs, 0, none⟩ = some (.bool false) := k9.cell 0
    have q1 : w9.cell? ⟨rs, 1, none⟩ = some (.slice none 0 0) := k9.cell 1
    refine bodyPost_ret (v := .tuple #[.agg #[.bool false, .slice none 0 0], .bool false]) (by simp [results, Tryd.results9, go_sem, q0, q1]) rfl ?_
    unfold WhRes
    rw [HO.out, HK.out]
    exact ⟨_, rfl, Wh.zero _ _, hB9⟩
  · have HG : Hid (∀ W, Calls Tryd.prog 16 #[.agg #[.int .i64 A, .int .i64 B]] W fun e w' => e = .returned (.bool true) ∧ Below W.heap.size W w') := fun W => (c_isCurve A B W).mono fun e w' h => ⟨h.1.trans (by rw [h1]), h.2⟩
    cases h2 : inB x (-1000) 1000
    · have ho : dwFine A B x n = false := by unfold dwFine dwOk; rw [h1, h2]; rfl
      have hk : dwVal A B x n = 0 := by unfold dwVal; rw [ho]; rfl
      have HO := Lib.hid ho
      have HK := Lib.hid hk
      clear ho hk h1
      have kC := (Blk.new w #[.int .i64 A, .int .i64 B] 26).alloc (.cells #[.bool false, .slice none 0 0] 31)
      have kR := Blk.new (w.alloc (.cells #[.int .i64 A, .int .i64 B] 26)) #[.bool false, .slice none 0 0] 31
      have hb0 : Below w.heap.size w ((w.alloc (.cells #[.int .i64 A, .int .i64 B] 26)).alloc (.cells #[.bool false, .slice none 0 0] 31)) := ((Below.refl _ _).alloc (Nat.le_refl _) _).alloc (by simp) _
      simp only [World.size_alloc] at kR
      have hsz := hb0.size
      go_enter Tryd.func9, Tryd.ntmps9
      go_upto_region 1 with (fail)
      generalize (w.alloc _).alloc _ = W at *
      generalize hrs : w.heap.size + 1 = rs at *
      have hrs2 : w.heap.size < rs := by omega
      clear hrs
      have kC0 : (W).cell? ⟨w.heap.size, 0, none⟩ = some (.int .i64 A) := kC.cell 0; have kC1 : (W).cell? ⟨w.heap.size, 1, none⟩ = some (.int .i64 B) := kC.cell 1; have kCl : w.heap.size < (W).heap.size := kC.lt
      go_wp2_with fail
      refine (HG.out _).mono ?_
      rintro e w1 ⟨rfl, hb1⟩
      have jC := kC.next hb1
      have kR1 := kR.next hb1
      have hbb : Below w.heap.size w w1 := below_step hb1 hsz hb0
      have hsz1 := hbb.size
      clear kC kR hb1 hb0 kC0 kC1 kCl
      have jC0 : (w1).cell? ⟨w.heap.size, 0, none⟩ = some (.int .i64 A) := jC.cell 0; have jC1 : (w1).cell? ⟨w.heap.size, 1, none⟩ = some (.int .i64 B) := jC.cell 1; have jCl : w.heap.size < (w1).heap.size := jC.lt
      have c0 : w1.cell? ⟨rs, 0, none⟩ = some (.bool false) := kR1.cell 0
      have c1 : w1.cell? ⟨rs, 1, none⟩ = some (.slice none 0 0) := kR1.cell 1
      have z0 := kR1.frozen 0
      have z1 := kR1.frozen 1
      have kRl := kR1.lt
      have k9 := (kR1.set 0 (.bool false)).set 1 (.slice none 0 0)
      have hB9 : Below w.heap.size w ((w1.setCell ⟨rs, 0, none⟩ (.bool false)).setCell ⟨rs, 1, none⟩ (.slice none 0 0)) := (hbb.setCell (by simp; omega) _).setCell (by simp; omega) _
      go_wp2_with ((go_at_call 17; refine (c_inside _ _ _ _).mono ?_; rintro e w' ⟨rfl, rfl⟩))
      generalize (World.setCell (World.setCell _ _ _) _ _) = w9 at hB9 k9 ⊢
      have q0 : w9.cell? ⟨rs, 0, none⟩ = some (.bool false) := k9.cell 0
      have q1 : w9.cell? ⟨rs, 1, none⟩ = some (.slice none 0 0) := k9.cell 1
      refine bodyPost_ret (v := .tuple #[.agg #[.bool false, .slice none 0 0], .bool false]) (by simp [results, Tryd.results9, go_sem, q0, q1]) rfl ?_
      unfold WhRes
      rw [HO.out, HK.out]
      exact ⟨_, rfl, Wh.zero _ _, hB9⟩
    · cases h3 : inB n 1 12
      · have ho : dwFine A B x n = false := by unfold dwFine dwOk; rw [h1, h2, h3]; rfl
        have hk : dwVal A B x n = 0 := by unfold dwVal; rw [ho]; rfl
        have HO := Lib.hid ho
        have HK := Lib.hid hk
        clear ho hk h1
        have kC := (Blk.new w #[.int .i64 A, .int .i64 B] 26).alloc (.cells #[.bool false, .slice none 0 0] 31)
        have kR := Blk.new (w.alloc (.cells #[.int .i64 A, .int .i64 B] 26)) #[.bool false, .slice none 0 0] 31
        have hb0 : Below w.heap.size w ((w.alloc (.cells #[.int .i64 A, .int .i64 B] 26)).alloc (.cells #[.bool false, .slice none 0 0] 31)) := ((Below.refl _ _).alloc (Nat.le_refl _) _).alloc (by simp) _
        simp only [World.size_alloc] at kR
        have hsz := hb0.size
        go_enter Tryd.func9, Tryd.ntmps9
        go_upto_region 1 with (fail)
        generalize (w.alloc _).alloc _ = W at *
        generalize hrs : w.heap.size + 1 = rs at *
        have hrs2 : w.heap.size < rs := by omega
        clear hrs
        have kC0 : (W).cell? ⟨w.heap.size, 0, none⟩ = some (.int .i64 A) := kC.cell 0; have kC1 : (W).cell? ⟨w.heap.size, 1, none⟩ = some (.int .i64 B) := kC.cell 1; have kCl : w.heap.size < (W).heap.size := kC.lt
        go_wp2_with fail
        refine (HG.out _).mono ?_
        rintro e w1 ⟨rfl, hb1⟩
        have jC := kC.next hb1
        have kR1 := kR.next hb1
        have hbb : Below w.heap.size w w1 := below_step hb1 hsz hb0
        have hsz1 := hbb.size
        clear kC kR hb1 hb0 kC0 kC1 kCl
        have jC0 : (w1).cell? ⟨w.heap.size, 0, none⟩ = some (.int .i64 A) := jC.cell 0; have jC1 : (w1).cell? ⟨w.heap.size, 1, none⟩ = some (.int .i64 B) := jC.cell 1; have jCl : w.heap.size < (w1).heap.size := jC.lt
        have c0 : w1.cell? ⟨rs, 0, none⟩ = some (.bool false) := kR1.cell 0
        have c1 : w1.cell? ⟨rs, 1, none⟩ = some (.slice none 0 0) := kR1.cell 1
        have z0 := kR1.frozen 0
        have z1 := kR1.frozen 1
        have kRl := kR1.lt
        have k9 := (kR1.set 0 (.bool false)).set 1 (.slice none 0 0)
        have hB9 : Below w.heap.size w ((w1.setCell ⟨rs, 0, none⟩ (.bool false)).setCell ⟨rs, 1, none⟩ (.slice none 0 0)) := (hbb.setCell (by simp; omega) _).setCell (by simp; omega) _
        go_wp2_with ((go_at_call 17; refine (c_inside _ _ _ _).mono ?_; rintro e w' ⟨rfl, rfl⟩))
        generalize (World.setCell (World.setCell _ _ _) _ _) = w9 at hB9 k9 ⊢
        have q0 : w9.cell? ⟨rs, 0, none⟩ = some (.bool false) := k9.cell 0
        have q1 : w9.cell? ⟨rs, 1, none⟩ = some (.slice none 0 0) := k9.cell 1
        refine bodyPost_ret (v := .tuple #[.agg #[.bool false, .slice none 0 0], .bool false]) (by simp [results, Tryd.results9, go_sem, q0, q1]) rfl ?_
        unfold WhRes
        rw [HO.out, HK.out]
        exact ⟨_, rfl, Wh.zero _ _, hB9⟩
      · have ho : dwFine A B x n = okW (dwE A B x n.toNat) := by unfold dwFine dwOk; rw [h1, h2, h3]; rfl
        have hk : dwVal A B x n = if okW (dwE A B x n.toNat) then dwE A B x n.toNat else 0 := by unfold dwVal; rw [ho]
        have HO := Lib.hid ho
        have HK := Lib.hid hk
        have hbd := curveB_bd h1
        have hx := inB_true h2
        have hn := inB_true h3
        clear ho hk h1
        obtain ⟨N, rfl⟩ := Int.eq_ofNat_of_zero_le (show 0 ≤ n by omega)
        rw [Int.toNat_natCast] at HO HK
        have hlen : (dg (dwE A B x N).natAbs).length ≤ 100000 := by
          have := (dw_sz hbd.1 hbd.2 hx (N - 4) (by omega) N).len
          unfold dwE
          omega
        have kC := (Blk.new w #[.int .i64 A, .int .i64 B] 26).alloc (.cells #[.bool false, .slice none 0 0] 31)
        have kR := Blk.new (w.alloc (.cells #[.int .i64 A, .int .i64 B] 26)) #[.bool false, .slice none 0 0] 31
        have hb0 : Below w.heap.size w ((w.alloc (.cells #[.int .i64 A, .int .i64 B] 26)).alloc (.cells #[.bool false, .slice none 0 0] 31)) := ((Below.refl _ _).alloc (Nat.le_refl _) _).alloc (by simp) _
        simp only [World.size_alloc] at kR
        have hsz := hb0.size
        go_enter Tryd.func9, Tryd.ntmps9
        go_upto_region 1 with (fail)
        generalize (w.alloc _).alloc _ = W at *
        generalize hrs : w.heap.size + 1 = rs at *
        have hrs2 : w.heap.size < rs := by omega
        clear hrs
        have kC0 : (W).cell? ⟨w.heap.size, 0, none⟩ = some (.int .i64 A) := kC.cell 0; have kC1 : (W).cell? ⟨w.heap.size, 1, none⟩ = some (.int .i64 B) := kC.cell 1; have kCl : w.heap.size < (W).heap.size := kC.lt
        go_wp2_with fail
        refine (HG.out _).mono ?_
        rintro e w1 ⟨rfl, hb1⟩
        have jC := kC.next hb1
        have kR1 := kR.next hb1
        have hbb : Below w.heap.size w w1 := below_step hb1 hsz hb0
        have hsz1 := hbb.size
        clear kC kR hb1 hb0 kC0 kC1 kCl
        have jC0 : (w1).cell? ⟨w.heap.size, 0, none⟩ = some (.int .i64 A) := jC.cell 0; have jC1 : (w1).cell? ⟨w.heap.size, 1, none⟩ = some (.int .i64 B) := jC.cell 1; have jCl : w.heap.size < (w1).heap.size := jC.lt
        have kRs := kR1.lt
        go_wp2_with ((go_at_call 17; refine (c_inside _ _ _ _).mono ?_; rintro e w' ⟨rfl, rfl⟩))
        refine (c_divisionWhole A B x N hbd.1 hbd.2 hx (by omega) _).mono ?_
        rintro e w2 ⟨v, rfl, hwh, hb2⟩
        have kR2 := kR1.next hb2
        have hbb2 : Below w.heap.size w w2 := below_step hb2 hsz1 hbb
        have hsz2 := hbb2.size
        have HB := Lib.hid (c_wholeResult w1.heap.size (dwE A B x N) v hlen w2 hwh)
        clear hwh hb2 kR1 hbb
        go_wp2_with fail
        refine HB.out.mono ?_
        rintro e w3 ⟨v3, rfl, hwh, hb3⟩
        obtain ⟨V, hV⟩ : ∃ V, (if okW (dwE A B x N) then dwE A B x N else 0) = V := ⟨_, rfl⟩
        rw [hV] at hwh
        have HV : Hid (dwVal A B x N = V) := HK.out.trans hV
        obtain ⟨fine, hfine⟩ : ∃ b, okW (dwE A B x N) = b := ⟨_, rfl⟩
        rw [hfine]
        have HF : Hid (dwFine A B x N = fine) := HO.out.trans hfine
        clear hV hfine HO HK
        obtain ⟨lv3, rfl, hr3⟩ := hwh
        obtain ⟨sl, scap, rfl, _⟩ := id hr3.1
        have kR3 := kR2.next hb3
        have hbb3 : Below w.heap.size w w3 := below_step hb3 hsz2 hbb2
        have c0 : w3.cell? ⟨rs, 0, none⟩ = some (.bool false) := kR3.cell 0
        have c1 : w3.cell? ⟨rs, 1, none⟩ = some (.slice none 0 0) := kR3.cell 1
        have z0 := kR3.frozen 0
        have z1 := kR3.frozen 1
        have kRl := kR3.lt
        have k9 := (kR3.set 0 (.bool (decide (V < 0)))).set 1 (.slice sl (dg V.natAbs).length scap)
        have hB9 : Below w.heap.size w ((w3.setCell ⟨rs, 0, none⟩ (.bool (decide (V < 0)))).setCell ⟨rs, 1, none⟩ (.slice sl (dg V.natAbs).length scap)) := (hbb3.setCell (by simp; omega) _).setCell (by simp; omega) _
        have ho8 := (hr3.set2 (S := rs) (by omega) (.bool (decide (V < 0))) (.slice sl (dg V.natAbs).length scap)).le (base' := w.heap.size) (by omega)
        clear hr3 hb3 kR2 hbb2
        go_wp2
        generalize (World.setCell (World.setCell _ _ _) _ _) = w9 at hB9 k9 ho8 ⊢
        have q0 : w9.cell? ⟨rs, 0, none⟩ = some (.bool (decide (V < 0))) := k9.cell 0
        have q1 : w9.cell? ⟨rs, 1, none⟩ = some (.slice sl (dg V.natAbs).length scap) := k9.cell 1
        refine bodyPost_ret (v := .tuple #[.agg #[.bool (decide (V < 0)), .slice sl (dg V.natAbs).length scap], .bool fine]) (by simp [results, Tryd.results9, go_sem, q0, q1]) rfl ?_
        unfold WhRes
        rw [HF.out, HV.out]
        exact ⟨_, rfl, ⟨_, rfl, ho8⟩, hB9⟩
end Go.Proofs.YtmlfkceafkhlaaaDoor
