/- Several texts joined: DwI. -/
import Derived.Test.YtgjdgcmmlfmhmaaGreatDoorMgj
import Derived.Shelf.Abstract
/- DwI -/
namespace Go.Proofs.YtgjdgcmmlfmhmaaGreatDoor
open Go.RowKit

def dwR (A B x : Int) : Int := x * x * x * (x * x * x) + 5 * A * (x * x) * (x * x) + 20 * B * (x * x * x) - 5 * (A * A) * (x * x) - 4 * A * B * x - 8 * B * B - A * A * A
theorem sums_of {Ns : List Int} {N : Int} (hl : Ns.length ≤ 10) (hz : ∀ y ∈ Ns, Sz 30000 y) (he : sm Ns = N) (v : Value) (w : World) (h : RdWs w v Ns) : Calls Tryz.prog 80 #[v] w (WhP N w) := by
  subst he
  exact c_sumWholes Ns v (by omega) (fun i hi => Nat.le_trans (hz _ (List.getElem_mem hi)).len (by omega)) (sm_len hl fun y hy => (hz y hy).mono (by omega)) w h
theorem z1 {k : Int} {Ns : List Int} (hk : -10000 < k ∧ k < 10000) (hl : Ns.length ≤ 8) (hN : ∀ x ∈ Ns, Sz 3000 x) : Sz 30000 (k * pr Ns) := by
  have h1 := (Sz.of1 hk.1 hk.2).mul (pr_sz Ns hN)
  exact h1.mono (by omega)
theorem pr2 (a b : Int) : 1 * pr [a, b] = a * b := by simp only [pr]; grind
theorem dw_ev (a b c d : Int) : sm [(1) * pr [a, b, b], (-1) * pr [c, d, d]] = a * (b * b) - c * (d * d) := by simp only [sm, pr]; grind
theorem dw_odd0 (a b c d G : Int) : sm [(1) * pr [a, b, b, b] * G, (-1) * pr [c, d, d, d]] = a * (b * b * b) * G - c * (d * d * d) := by simp only [sm, pr]; grind
theorem dw_odd1 (a b c d G : Int) : sm [(1) * pr [a, b, b, b], (-1) * pr [c, d, d, d] * G] = a * (b * b * b) - c * (d * d * d) * G := by simp only [sm, pr]; grind
set_option maxHeartbeats 8000000 in
set_option maxRecDepth 100000 in
theorem c_divisionWhole (A B x : Int) (n : Nat) (hA : -1000 ≤ A ∧ A ≤ 1000) (hB : -10000 ≤ B ∧ B ≤ 10000) (hx : -1000 ≤ x ∧ x ≤ 1000) (hn : 1 ≤ n ∧ n ≤ 12) (w : World) :
    Calls Tryz.prog 46 #[.agg #[.int .i64 A, .int .i64 B], .int .i64 x, .int .i64 n] w (WhP (dwE A B x n) w) := by
  have kC := (Blk.new w #[.int .i64 A, .int .i64 B] 24).alloc (.cells #[.bool false, .slice none 0 0] 37)
  have kR := Blk.new (w.alloc (.cells #[.int .i64 A, .int .i64 B] 24)) #[.bool false, .slice none 0 0] 37
  have hb0 : Below w.heap.size w ((w.alloc (.cells #[.int .i64 A, .int .i64 B] 24)).alloc (.cells #[.bool false, .slice none 0 0] 37)) := ((Below.refl _ _).alloc (Nat.le_refl _) _).alloc (by simp) _
  have hW0 : ((w.alloc (.cells #[.int .i64 A, .int .i64 B] 24)).alloc (.cells #[.bool false, .slice none 0 0] 37)).heap.size = w.heap.size + 2 := by simp
  simp only [World.size_alloc] at kR
  obtain ⟨b, hb⟩ : ∃ b, w.heap.size = b := ⟨_, rfl⟩
  have zA : Sz 3000 A := (Sz.of1 (by omega) (by omega)).mono (by omega)
  have zB : Sz 3000 B := (Sz.of4 (by omega) (by omega)).mono (by omega)
  have zx : Sz 3000 x := (Sz.of1 (by omega) (by omega)).mono (by omega)
  have hF : Hid (∀ v w, RdWs w v [(1) * pr [x, x, x], (1) * pr [A, x], B] → Calls Tryz.prog 80 #[v] w (WhP (dvF A B x) w)) := sums_of (by simp) (by
    simp only [List.forall_mem_cons]
    exact ⟨z1 (by omega) (by simp) (by simp [zx]), z1 (by omega) (by simp) (by simp [zA, zx]), zB.mono (by omega), fun _ h => by cases h⟩) (by simp only [sm, pr, dvF]; grind)
  have zF : Sz 3000 (dvF A B x) := by
    have h1 := mulTwo_bd (by omega) hx (by omega) hx
    have h2 := mulTwo_bd (by omega) h1 (by omega) hx
    have h3 := mulTwo_bd (by omega) hA (by omega) hx
    refine (Sz.of4 ?_ ?_).mono (by omega) <;> (unfold dvF; omega)
  have hG : Hid (∀ v w, RdWs w v [dvF A B x, dvF A B x] → Calls Tryz.prog 78 #[.int .i64 16, v] w (WhP (dwG A B x) w)) := fun v w h => by
    have h1 := c_timesW 16 [dvF A B x, dvF A B x] v (by omega) (by simp) (by simp) (by simp [zF]) w h
    rw [show 16 * pr [dvF A B x, dvF A B x] = dwG A B x by simp only [pr, dwG]; grind] at h1
    exact h1
  have hT : Hid (∀ v w, RdWs w v [(3) * pr [x, x, x, x], (6) * pr [A, x, x], (12) * pr [B, x], (-1) * pr [A, A]] → Calls Tryz.prog 80 #[v] w (WhP (dvT A B x) w)) := sums_of (by simp) (by
    simp only [List.forall_mem_cons]
    exact ⟨z1 (by omega) (by simp) (by simp [zx]), z1 (by omega) (by simp) (by simp [zA, zx]), z1 (by omega) (by simp) (by simp [zB, zx]), z1 (by omega) (by simp) (by simp [zA]), fun _ h => by cases h⟩) (by simp only [sm, pr, dvT]; grind)
  have hR : Hid (∀ v w, RdWs w v [(1) * pr [x, x, x, x, x, x], (5) * pr [A, x, x, x, x], (20) * pr [B, x, x, x], (-5) * pr [A, A, x, x], (-4) * pr [A, B, x], (-8) * pr [B, B], (-1) * pr [A, A, A]] → Calls Tryz.prog 80 #[v] w (WhP (dwR A B x) w)) := sums_of (by simp) (by
    simp only [List.forall_mem_cons]
    exact ⟨z1 (by omega) (by simp) (by simp [zx]), z1 (by omega) (by simp) (by simp [zA, zx]), z1 (by omega) (by simp) (by simp [zB, zx]), z1 (by omega) (by simp) (by simp [zA, zx]), z1 (by omega) (by simp) (by simp [zA, zB, zx]), z1 (by omega) (by simp) (by simp [zB]), z1 (by omega) (by simp) (by simp [zA]), fun _ h => by cases h⟩) (by simp only [sm, pr, dwR]; grind)
  have zQ : Sz 3000 (dwR A B x) := by
    have h1 := (dv_bds hA hB hx).2.1
    have h2 : dvQ A B x = 2 * dwR A B x := rfl
    rw [h2] at h1
    refine Sz.mono (m := 5) ?_ (by omega)
    unfold Sz at *
    omega
  have hQ : Hid (∀ v w, RdWs w v [dwR A B x] → Calls Tryz.prog 78 #[.int .i64 2, v] w (WhP (dvQ A B x) w)) := fun v w h => by
    have h1 := c_timesW 2 [dwR A B x] v (by omega) (by simp) (by simp) (by simp [zQ]) w h
    rw [show 2 * pr [dwR A B x] = dvQ A B x by simp only [pr, dvQ, dwR]; grind] at h1
    exact h1
  go_enter Tryz.func46, Tryz.ntmps46
  go_upto_region 1 with (fail)
  generalize (w.alloc _).alloc _ = W at *
  rw [hb] at kC kR hb0 hW0
  have HBW := Lib.hid hb
  clear hb
  have hbW : b ≤ W.heap.size := by omega
  clear hW0
  refine wp_region_tab 8 [6, 7] [(6, 7), (7, 8), (0, 21), (1, 22), (2, 23), (3, 24), (4, 25), (5, 26)] [IsV (.pointer (some ⟨b, 0, none⟩)), IsV (.int .i64 A), Wh b A, IsV (.pointer (some ⟨b, 1, none⟩)), IsV (.int .i64 B), Wh b B, PA W.heap.size #[.bool false, .slice none 0 0] 37, PA W.heap.size #[.bool false, .slice none 0 0] 37] (by kernel_rfl) (by kernel_rfl) (by kernel_rfl) ⟨⟨_, _, _, rfl⟩, ⟨_, _, _, rfl⟩, trivial⟩ ⟨IsV.closed _, IsV.closed _, Wh.closed _ _, IsV.closed _, IsV.closed _, Wh.closed _ _, PA.closed _ _ _, PA.closed _ _ _, trivial⟩ ⟨?_, ?_, ?_, ?_, ?_, ?_, ?_, ?_, trivial⟩ ?_
  · refine StepT.q _ (by rfl) (by rfl) fun ρ w' H => ?_
    exact op_field0 _ rfl (H.bas 3 (by kernel_rfl))
  · refine StepT.q _ (by rfl) (by rfl) fun ρ w' H => ?_
    obtain ⟨v0, e0, p0⟩ := H.dep 0 21 (by kernel_rfl)
    obtain rfl : v0 = .pointer (some ⟨b, 0, none⟩) := p0
    exact op_ldI _ rfl e0 ((kC.next H.bel).cell 0)
  · refine StepT.q _ (by rfl) (by rfl) fun ρ w' H => ?_
    obtain ⟨v1, e1, p1⟩ := H.dep 1 22 (by kernel_rfl)
    obtain rfl : v1 = .int .i64 A := p1
    exact OpTo.call 77 #[.int .i64 A] _ _ _ rfl (H.fn 77) (enters_of Tryz.func77 (by kernel_rfl) rfl) (by simp [e1]) ((c_wholeOf A (by omega) w').mono fun e w2 ⟨v, h1, h2, h3⟩ => ⟨v, h1, h3, h2.le (Nat.le_trans hbW H.bel.size)⟩)
  · refine StepT.q _ (by rfl) (by rfl) fun ρ w' H => ?_
    exact op_field1 _ rfl (H.bas 3 (by kernel_rfl))
  · refine StepT.q _ (by rfl) (by rfl) fun ρ w' H => ?_
    obtain ⟨v3, e3, p3⟩ := H.dep 3 24 (by kernel_rfl)
    obtain rfl : v3 = .pointer (some ⟨b, 1, none⟩) := p3
    exact op_ldI _ rfl e3 ((kC.next H.bel).cell 1)
  · refine StepT.q _ (by rfl) (by rfl) fun ρ w' H => ?_
    obtain ⟨v4, e4, p4⟩ := H.dep 4 25 (by kernel_rfl)
    obtain rfl : v4 = .int .i64 B := p4
    exact OpTo.call 77 #[.int .i64 B] _ _ _ rfl (H.fn 77) (enters_of Tryz.func77 (by kernel_rfl) rfl) (by simp [e4]) ((c_wholeOf B (by omega) w').mono fun e w2 ⟨v, h1, h2, h3⟩ => ⟨v, h1, h3, h2.le (Nat.le_trans hbW H.bel.size)⟩)
  · refine StepT.a _ (by rfl) fun ρ w' H => ?_
    exact OpTo.alloc rfl (fun w => by simp [go_sem]) H.bel.size
  · refine StepT.a _ (by rfl) fun ρ w' H => ?_
    exact OpTo.alloc rfl (fun w => by simp [go_sem]) H.bel.size
  intro vs Wt hBt hDt
  have hV2 : (Wh b A) (vs 2) Wt := hDt.1 2 (by omega)
  have hV5 : (Wh b B) (vs 5) Wt := hDt.1 5 (by omega)
  have hV6 : (PA W.heap.size #[.bool false, .slice none 0 0] 37) (vs 6) Wt := hDt.1 6 (by omega)
  have hV7 : (PA W.heap.size #[.bool false, .slice none 0 0] 37) (vs 7) Wt := hDt.1 7 (by omega)
  obtain ⟨r7, ea7, hr7, kr7⟩ := hV6
  obtain ⟨r8, ea8, hr8, kr8⟩ := hV7
  have hx8_7 : r8 ≠ r7 := fun h => hDt.2 7 6 (by omega) (by omega) (by omega) (by simp) (by simp) (by rw [ea8, ea7, h])
  clear hDt
  simp only [mergeS, Nat.reduceBEq, cond_true, cond_false, Nat.reduceAdd, List.drop_succ_cons, List.drop_zero, ea7, ea8]
  obtain ⟨lv7, ev7, rv7, cv7⟩ := hV2.cell
  obtain ⟨sl7, sc7, rfl, _⟩ := id rv7.1
  simp only [ev7]
  obtain ⟨lv8, ev8, rv8, cv8⟩ := hV5.cell
  obtain ⟨sl8, sc8, rfl, _⟩ := id rv8.1
  simp only [ev8]
  have x0 : Wt.cell? ⟨r7, 0, none⟩ = some (.bool false) := kr7.cell 0
  have x1 : Wt.cell? ⟨r7, 1, none⟩ = some (.slice none 0 0) := kr7.cell 1
  have x2 := kr7.frozen 0
  have x3 := kr7.frozen 1
  have x4 := kr7.lt
  have y0 : Wt.cell? ⟨r8, 0, none⟩ = some (.bool false) := kr8.cell 0
  have y1 : Wt.cell? ⟨r8, 1, none⟩ = some (.slice none 0 0) := kr8.cell 1
  have y2 := kr8.frozen 0
  have y3 := kr8.frozen 1
  have y4 := kr8.lt
  have kA : BlkW b r7 (A) ((Wt.setCell ⟨r7, 0, none⟩ (.bool (decide (A < 0)))).setCell ⟨r7, 1, none⟩ (.slice sl7 (dg (A).natAbs).length sc7)) := BlkW.put kr7 rfl rv7 cv7
  have kk := (kr8.far (p := ⟨r7, 0, none⟩) hx8_7 (.bool (decide (A < 0)))).far (p := ⟨r7, 1, none⟩) hx8_7 (.slice sl7 (dg (A).natAbs).length sc7)
  have hB1 : Below W.heap.size W ((Wt.setCell ⟨r7, 0, none⟩ (.bool (decide (A < 0)))).setCell ⟨r7, 1, none⟩ (.slice sl7 (dg (A).natAbs).length sc7)) := (hBt.setCell hr7 _).setCell hr7 _
  have rw9 : RdO ((Wt.setCell ⟨r7, 0, none⟩ (.bool (decide (A < 0)))).setCell ⟨r7, 1, none⟩ (.slice sl7 (dg (A).natAbs).length sc7)) b (.slice sl8 (dg (B).natAbs).length sc8) (dg (B).natAbs) := rv8.far (by decide) kr7 (over_set2 _ _ _ _)
  replace kA := kA.far (Ne.symm hx8_7) kk (.bool (decide (B < 0))) (.slice sl8 (dg (B).natAbs).length sc8)
  have kB : BlkW b r8 (B) ((((Wt.setCell ⟨r7, 0, none⟩ (.bool (decide (A < 0)))).setCell ⟨r7, 1, none⟩ (.slice sl7 (dg (A).natAbs).length sc7)).setCell ⟨r8, 0, none⟩ (.bool (decide (B < 0)))).setCell ⟨r8, 1, none⟩ (.slice sl8 (dg (B).natAbs).length sc8)) := BlkW.put kk rfl rw9 cv8
  have hBf : Below W.heap.size W ((((Wt.setCell ⟨r7, 0, none⟩ (.bool (decide (A < 0)))).setCell ⟨r7, 1, none⟩ (.slice sl7 (dg (A).natAbs).length sc7)).setCell ⟨r8, 0, none⟩ (.bool (decide (B < 0)))).setCell ⟨r8, 1, none⟩ (.slice sl8 (dg (B).natAbs).length sc8)) := (hB1.setCell (p := ⟨r8, 0, none⟩) hr8 _).setCell (p := ⟨r8, 1, none⟩) hr8 _
  replace kR := kR.next hBf
  replace hb0 : Below b w _ := below_step hBf hbW hb0
  replace hbW := Nat.le_trans hbW hBf.size
  clear hV2 hV5 hBt kr7 kr8 ev7 rv7 cv7 ev8 rv8 cv8 kk hB1 rw9
  go_upto_region 2 with (fail)
  generalize (World.setCell (World.setCell (World.setCell (World.setCell _ _ _) _ _) _ _) _ _) = W2 at *
  clear x0 x1 x2 x3 x4 y0 y1 y2 y3 y4 hBf hr7 hr8
  clear kC
  refine wp_region_tabF 3 [2] [(2, 9), (0, 27), (1, 28)] [IsV (.int .i64 x), Wh b x, PA W2.heap.size #[.bool false, .slice none 0 0] 37] (by kernel_rfl) (by kernel_rfl) (by kernel_rfl) ⟨⟨_, _, _, rfl⟩, trivial⟩ ⟨IsV.closed _, Wh.closed _ _, PA.closed _ _ _, trivial⟩ ⟨?_, ?_, ?_, trivial⟩ ?_
  · refine StepT.q _ (by rfl) (by rfl) fun ρ w' H => ?_
    exact OpTo.move _ rfl (H.bas 1 (by kernel_rfl))
  · refine StepT.q _ (by rfl) (by rfl) fun ρ w' H => ?_
    obtain ⟨v0, e0, p0⟩ := H.dep 0 27 (by kernel_rfl)
    obtain rfl : v0 = .int .i64 x := p0
    exact OpTo.call 77 #[.int .i64 x] _ _ _ rfl (H.fn 77) (enters_of Tryz.func77 (by kernel_rfl) rfl) (by simp [e0]) ((c_wholeOf x (by omega) w').mono fun e w2 ⟨v, h1, h2, h3⟩ => ⟨v, h1, h3, h2.le (Nat.le_trans hbW H.bel.size)⟩)
  · refine StepT.a _ (by rfl) fun ρ w' H => ?_
    exact OpTo.alloc rfl (fun w => by simp [go_sem]) H.bel.size
  intro vs Wt hBt hDt
  have hV1 : (Wh b x) (vs 1) Wt := hDt.1 1 (by omega)
  have hV2 : (PA W2.heap.size #[.bool false, .slice none 0 0] 37) (vs 2) Wt := hDt.1 2 (by omega)
  obtain ⟨r9, ea9, hr9, kr9⟩ := hV2
  clear hDt
  simp only [mergeS, Nat.reduceBEq, cond_true, cond_false, Nat.reduceAdd, List.drop_succ_cons, List.drop_zero, ea9]
  obtain ⟨lv9, ev9, rv9, cv9⟩ := hV1.cell
  obtain ⟨sl9, sc9, rfl, _⟩ := id rv9.1
  simp only [ev9]
  have x0 : Wt.cell? ⟨r9, 0, none⟩ = some (.bool false) := kr9.cell 0
  have x1 : Wt.cell? ⟨r9, 1, none⟩ = some (.slice none 0 0) := kr9.cell 1
  have x2 := kr9.frozen 0
  have x3 := kr9.frozen 1
  have x4 := kr9.lt
  have kx : BlkW b r9 (x) ((Wt.setCell ⟨r9, 0, none⟩ (.bool (decide (x < 0)))).setCell ⟨r9, 1, none⟩ (.slice sl9 (dg (x).natAbs).length sc9)) := BlkW.put kr9 rfl rv9 cv9
  have hBf : Below W2.heap.size W2 ((Wt.setCell ⟨r9, 0, none⟩ (.bool (decide (x < 0)))).setCell ⟨r9, 1, none⟩ (.slice sl9 (dg (x).natAbs).length sc9)) := (hBt.setCell hr9 _).setCell hr9 _
  replace kR := kR.next hBf
  replace kA := kA.next hBf
  replace kB := kB.next hBf
  replace hb0 : Below b w _ := below_step hBf hbW hb0
  replace hbW := Nat.le_trans hbW hBf.size
  clear hV1 hBt kr9 ev9 rv9 cv9
  go_upto_region 4 with (fail)
  generalize (World.setCell (World.setCell _ _ _) _ _) = W3 at *
  clear x0 x1 x2 x3 x4 hBf hr9
  refine wp_region_tab 15 [14] [(14, 11), (0, 29), (1, 30), (2, 31), (3, 32), (4, 33), (5, 34), (6, 35), (7, 36), (8, 37), (9, 38), (10, 39), (11, 40), (12, 41), (13, 42)] [IsV (.func (.func 78) #[] #[]), Wh b x, Wh b x, Wh b x, IsWs [x, x, x], Wh b ((1) * pr [x, x, x]), IsV (.func (.func 78) #[] #[]), Wh b A, Wh b x, IsWs [A, x], Wh b ((1) * pr [A, x]), Wh b B, IsWs [((1) * pr [x, x, x]), ((1) * pr [A, x]), B], Wh b (dvF A B x), PA W3.heap.size #[.bool false, .slice none 0 0] 37] (by kernel_rfl) (by kernel_rfl) (by kernel_rfl) ⟨⟨_, _, _, rfl⟩, trivial⟩ ⟨IsV.closed _, Wh.closed _ _, Wh.closed _ _, Wh.closed _ _, IsWs.closed _, Wh.closed _ _, IsV.closed _, Wh.closed _ _, Wh.closed _ _, IsWs.closed _, Wh.closed _ _, Wh.closed _ _, IsWs.closed _, Wh.closed _ _, PA.closed _ _ _, trivial⟩ ⟨?_, ?_, ?_, ?_, ?_, ?_, ?_, ?_, ?_, ?_, ?_, ?_, ?_, ?_, ?_, trivial⟩ ?_
  · refine StepT.q _ (by rfl) (by rfl) fun ρ w' H => ?_
    exact OpTo.move _ rfl (H.bas 10 (by kernel_rfl))
  · refine StepT.q _ (by rfl) (by rfl) fun ρ w' H => ?_
    have hx : ρ (.tmp 9) = .pointer (some ⟨r9, 0, none⟩) := H.bas 9 (by kernel_rfl); exact op_ldW _ rfl hx (kx.next H.bel)
  · refine StepT.q _ (by rfl) (by rfl) fun ρ w' H => ?_
    have hx : ρ (.tmp 9) = .pointer (some ⟨r9, 0, none⟩) := H.bas 9 (by kernel_rfl); exact op_ldW _ rfl hx (kx.next H.bel)
  · refine StepT.q _ (by rfl) (by rfl) fun ρ w' H => ?_
    have hx : ρ (.tmp 9) = .pointer (some ⟨r9, 0, none⟩) := H.bas 9 (by kernel_rfl); exact op_ldW _ rfl hx (kx.next H.bel)
  · refine StepT.q _ (by rfl) (by rfl) fun ρ w' H => ?_
    obtain ⟨v1, e1, p1⟩ := H.dep 1 30 (by kernel_rfl)
    have p1 : (Wh b x) v1 w' := p1
    obtain ⟨v2, e2, p2⟩ := H.dep 2 31 (by kernel_rfl)
    have p2 : (Wh b x) v2 w' := p2
    obtain ⟨v3, e3, p3⟩ := H.dep 3 32 (by kernel_rfl)
    have p3 : (Wh b x) v3 w' := p3
    exact op_bs3 _ _ _ _ _ _ rfl (by rw [e1]; exact p1) (by rw [e2]; exact p2) (by rw [e3]; exact p3)
  · refine StepT.q _ (by rfl) (by rfl) fun ρ w' H => ?_
    obtain ⟨v0, e0, p0⟩ := H.dep 0 29 (by kernel_rfl)
    obtain rfl : v0 = .func (.func 78) #[] #[] := p0
    obtain ⟨v4, e4, p4⟩ := H.dep 4 33 (by kernel_rfl)
    have p4 : (IsWs [x, x, x]) v4 w' := p4
    exact OpTo.call 78 #[(Value.int IntKind.i64 1), v4] _ _ _ rfl (e0) (enters_of Tryz.func78 (by kernel_rfl) rfl) (by simp [e4, H.con]) ((c_timesW (1) [x, x, x] v4 (by omega) (by simp) (by simp) (List.forall_mem_cons.2 ⟨zx, List.forall_mem_cons.2 ⟨zx, List.forall_mem_cons.2 ⟨zx, fun _ h => (by cases h)⟩⟩⟩) w' p4).mono fun e w2 ⟨v, h1, h2, h3⟩ => ⟨v, h1, h3, h2.le (Nat.le_trans hbW H.bel.size)⟩)
  · refine StepT.q _ (by rfl) (by rfl) fun ρ w' H => ?_
    exact OpTo.move _ rfl (H.bas 10 (by kernel_rfl))
  · refine StepT.q _ (by rfl) (by rfl) fun ρ w' H => ?_
    have hx : ρ (.tmp 7) = .pointer (some ⟨r7, 0, none⟩) := H.bas 7 (by kernel_rfl); exact op_ldW _ rfl hx (kA.next H.bel)
  · refine StepT.q _ (by rfl) (by rfl) fun ρ w' H => ?_
    have hx : ρ (.tmp 9) = .pointer (some ⟨r9, 0, none⟩) := H.bas 9 (by kernel_rfl); exact op_ldW _ rfl hx (kx.next H.bel)
  · refine StepT.q _ (by rfl) (by rfl) fun ρ w' H => ?_
    obtain ⟨v7, e7, p7⟩ := H.dep 7 36 (by kernel_rfl)
    have p7 : (Wh b A) v7 w' := p7
    obtain ⟨v8, e8, p8⟩ := H.dep 8 37 (by kernel_rfl)
    have p8 : (Wh b x) v8 w' := p8
    exact op_bs2 _ _ _ _ rfl (by rw [e7]; exact p7) (by rw [e8]; exact p8)
  · refine StepT.q _ (by rfl) (by rfl) fun ρ w' H => ?_
    obtain ⟨v6, e6, p6⟩ := H.dep 6 35 (by kernel_rfl)
    obtain rfl : v6 = .func (.func 78) #[] #[] := p6
    obtain ⟨v9, e9, p9⟩ := H.dep 9 38 (by kernel_rfl)
    have p9 : (IsWs [A, x]) v9 w' := p9
    exact OpTo.call 78 #[(Value.int IntKind.i64 1), v9] _ _ _ rfl (e6) (enters_of Tryz.func78 (by kernel_rfl) rfl) (by simp [e9, H.con]) ((c_timesW (1) [A, x] v9 (by omega) (by simp) (by simp) (List.forall_mem_cons.2 ⟨zA, List.forall_mem_cons.2 ⟨zx, fun _ h => (by cases h)⟩⟩) w' p9).mono fun e w2 ⟨v, h1, h2, h3⟩ => ⟨v, h1, h3, h2.le (Nat.le_trans hbW H.bel.size)⟩)
  · refine StepT.q _ (by rfl) (by rfl) fun ρ w' H => ?_
    have hx : ρ (.tmp 8) = .pointer (some ⟨r8, 0, none⟩) := H.bas 8 (by kernel_rfl); exact op_ldW _ rfl hx (kB.next H.bel)
  · refine StepT.q _ (by rfl) (by rfl) fun ρ w' H => ?_
    obtain ⟨v5, e5, p5⟩ := H.dep 5 34 (by kernel_rfl)
    have p5 : (Wh b ((1) * pr [x, x, x])) v5 w' := p5
    obtain ⟨v10, e10, p10⟩ := H.dep 10 39 (by kernel_rfl)
    have p10 : (Wh b ((1) * pr [A, x])) v10 w' := p10
    obtain ⟨v11, e11, p11⟩ := H.dep 11 40 (by kernel_rfl)
    have p11 : (Wh b B) v11 w' := p11
    exact op_bs3 _ _ _ _ _ _ rfl (by rw [e5]; exact p5) (by rw [e10]; exact p10) (by rw [e11]; exact p11)
  · refine StepT.q _ (by rfl) (by rfl) fun ρ w' H => ?_
    obtain ⟨v12, e12, p12⟩ := H.dep 12 41 (by kernel_rfl)
    have p12 : (IsWs [((1) * pr [x, x, x]), ((1) * pr [A, x]), B]) v12 w' := p12
    exact OpTo.call 80 #[v12] _ _ _ rfl (H.fn 80) (enters_of Tryz.func80 (by kernel_rfl) rfl) (by simp [e12]) ((hF.out _ w' p12).mono fun e w2 ⟨v, h1, h2, h3⟩ => ⟨v, h1, h3, h2.le (Nat.le_trans hbW H.bel.size)⟩)
  · refine StepT.a _ (by rfl) fun ρ w' H => ?_
    exact OpTo.alloc rfl (fun w => by simp [go_sem]) H.bel.size
  intro vs Wt hBt hDt
  have hV13 : (Wh b (dvF A B x)) (vs 13) Wt := hDt.1 13 (by omega)
  have hV14 : (PA W3.heap.size #[.bool false, .slice none 0 0] 37) (vs 14) Wt := hDt.1 14 (by omega)
  obtain ⟨r11, ea11, hr11, kr11⟩ := hV14
  clear hDt
  simp only [mergeS, Nat.reduceBEq, cond_true, cond_false, Nat.reduceAdd, List.drop_succ_cons, List.drop_zero, ea11]
  obtain ⟨lv11, ev11, rv11, cv11⟩ := hV13.cell
  obtain ⟨sl11, sc11, rfl, _⟩ := id rv11.1
  simp only [ev11]
  have x0 : Wt.cell? ⟨r11, 0, none⟩ = some (.bool false) := kr11.cell 0
  have x1 : Wt.cell? ⟨r11, 1, none⟩ = some (.slice none 0 0) := kr11.cell 1
  have x2 := kr11.frozen 0
  have x3 := kr11.frozen 1
  have x4 := kr11.lt
  have kF : BlkW b r11 (dvF A B x) ((Wt.setCell ⟨r11, 0, none⟩ (.bool (decide (dvF A B x < 0)))).setCell ⟨r11, 1, none⟩ (.slice sl11 (dg (dvF A B x).natAbs).length sc11)) := BlkW.put kr11 rfl rv11 cv11
  have hBf : Below W3.heap.size W3 ((Wt.setCell ⟨r11, 0, none⟩ (.bool (decide (dvF A B x < 0)))).setCell ⟨r11, 1, none⟩ (.slice sl11 (dg (dvF A B x).natAbs).length sc11)) := (hBt.setCell hr11 _).setCell hr11 _
  replace kR := kR.next hBf
  replace kA := kA.next hBf
  replace kB := kB.next hBf
  replace kx := kx.next hBf
  replace hb0 : Below b w _ := below_step hBf hbW hb0
  replace hbW := Nat.le_trans hbW hBf.size
  clear hV13 hBt kr11 ev11 rv11 cv11
  go_upto_region 5 with (fail)
  generalize (World.setCell (World.setCell _ _ _) _ _) = W4 at *
  clear x0 x1 x2 x3 x4 hBf hr11
  refine wp_region_tabF 6 [5] [(5, 12), (0, 43), (1, 44), (2, 45), (3, 46), (4, 47)] [IsV (.func (.func 78) #[] #[]), Wh b (dvF A B x), Wh b (dvF A B x), IsWs [(dvF A B x), (dvF A B x)], Wh b (dwG A B x), PA W4.heap.size #[.bool false, .slice none 0 0] 37] (by kernel_rfl) (by kernel_rfl) (by kernel_rfl) ⟨⟨_, _, _, rfl⟩, trivial⟩ ⟨IsV.closed _, Wh.closed _ _, Wh.closed _ _, IsWs.closed _, Wh.closed _ _, PA.closed _ _ _, trivial⟩ ⟨?_, ?_, ?_, ?_, ?_, ?_, trivial⟩ ?_
  · refine StepT.q _ (by rfl) (by rfl) fun ρ w' H => ?_
    exact OpTo.move _ rfl (H.bas 10 (by kernel_rfl))
  · refine StepT.q _ (by rfl) (by rfl) fun ρ w' H => ?_
    have hx : ρ (.tmp 11) = .pointer (some ⟨r11, 0, none⟩) := H.bas 11 (by kernel_rfl); exact op_ldW _ rfl hx (kF.next H.bel)
  · refine StepT.q _ (by rfl) (by rfl) fun ρ w' H => ?_
    have hx : ρ (.tmp 11) = .pointer (some ⟨r11, 0, none⟩) := H.bas 11 (by kernel_rfl); exact op_ldW _ rfl hx (kF.next H.bel)
  · refine StepT.q _ (by rfl) (by rfl) fun ρ w' H => ?_
    obtain ⟨v1, e1, p1⟩ := H.dep 1 44 (by kernel_rfl)
    have p1 : (Wh b (dvF A B x)) v1 w' := p1
    obtain ⟨v2, e2, p2⟩ := H.dep 2 45 (by kernel_rfl)
    have p2 : (Wh b (dvF A B x)) v2 w' := p2
    exact op_bs2 _ _ _ _ rfl (by rw [e1]; exact p1) (by rw [e2]; exact p2)
  · refine StepT.q _ (by rfl) (by rfl) fun ρ w' H => ?_
    obtain ⟨v0, e0, p0⟩ := H.dep 0 43 (by kernel_rfl)
    obtain rfl : v0 = .func (.func 78) #[] #[] := p0
    obtain ⟨v3, e3, p3⟩ := H.dep 3 46 (by kernel_rfl)
    have p3 : (IsWs [(dvF A B x), (dvF A B x)]) v3 w' := p3
    exact OpTo.call 78 #[(Value.int IntKind.i64 16), v3] _ _ _ rfl (e0) (enters_of Tryz.func78 (by kernel_rfl) rfl) (by simp [e3, H.con]) ((hG.out _ w' p3).mono fun e w2 ⟨v, h1, h2, h3⟩ => ⟨v, h1, h3, h2.le (Nat.le_trans hbW H.bel.size)⟩)
  · refine StepT.a _ (by rfl) fun ρ w' H => ?_
    exact OpTo.alloc rfl (fun w => by simp [go_sem]) H.bel.size
  intro vs Wt hBt hDt
  have hV4 : (Wh b (dwG A B x)) (vs 4) Wt := hDt.1 4 (by omega)
  have hV5 : (PA W4.heap.size #[.bool false, .slice none 0 0] 37) (vs 5) Wt := hDt.1 5 (by omega)
  obtain ⟨r12, ea12, hr12, kr12⟩ := hV5
  clear hDt
  simp only [mergeS, Nat.reduceBEq, cond_true, cond_false, Nat.reduceAdd, List.drop_succ_cons, List.drop_zero, ea12]
  obtain ⟨lv12, ev12, rv12, cv12⟩ := hV4.cell
  obtain ⟨sl12, sc12, rfl, _⟩ := id rv12.1
  simp only [ev12]
  have x0 : Wt.cell? ⟨r12, 0, none⟩ = some (.bool false) := kr12.cell 0
  have x1 : Wt.cell? ⟨r12, 1, none⟩ = some (.slice none 0 0) := kr12.cell 1
  have x2 := kr12.frozen 0
  have x3 := kr12.frozen 1
  have x4 := kr12.lt
  have kG : BlkW b r12 (dwG A B x) ((Wt.setCell ⟨r12, 0, none⟩ (.bool (decide (dwG A B x < 0)))).setCell ⟨r12, 1, none⟩ (.slice sl12 (dg (dwG A B x).natAbs).length sc12)) := BlkW.put kr12 rfl rv12 cv12
  have hBf : Below W4.heap.size W4 ((Wt.setCell ⟨r12, 0, none⟩ (.bool (decide (dwG A B x < 0)))).setCell ⟨r12, 1, none⟩ (.slice sl12 (dg (dwG A B x).natAbs).length sc12)) := (hBt.setCell hr12 _).setCell hr12 _
  replace kR := kR.next hBf
  replace kA := kA.next hBf
  replace kB := kB.next hBf
  replace kx := kx.next hBf
  replace hb0 : Below b w _ := below_step hBf hbW hb0
  replace hbW := Nat.le_trans hbW hBf.size
  clear hV4 hBt kr12 ev12 rv12 cv12
  go_upto_region 6 with (fail)
  generalize (World.setCell (World.setCell _ _ _) _ _) = W5 at *
  clear x0 x1 x2 x3 x4 hBf hr12
  clear kF
  refine wp_region_tab 26 [25] [(25, 13), (0, 48), (1, 49), (2, 50), (3, 51), (4, 52), (5, 53), (6, 54), (7, 55), (8, 56), (9, 57), (10, 58), (11, 59), (12, 60), (13, 61), (14, 62), (15, 63), (16, 64), (17, 65), (18, 66), (19, 67), (20, 68), (21, 69), (22, 70), (23, 71), (24, 72)] [IsV (.func (.func 78) #[] #[]), Wh b x, Wh b x, Wh b x, Wh b x, IsWs [x, x, x, x], Wh b ((3) * pr [x, x, x, x]), IsV (.func (.func 78) #[] #[]), Wh b A, Wh b x, Wh b x, IsWs [A, x, x], Wh b ((6) * pr [A, x, x]), IsV (.func (.func 78) #[] #[]), Wh b B, Wh b x, IsWs [B, x], Wh b ((12) * pr [B, x]), IsV (.func (.func 78) #[] #[]), Wh b A, Wh b A, IsWs [A, A], Wh b ((-1) * pr [A, A]), IsWs [((3) * pr [x, x, x, x]), ((6) * pr [A, x, x]), ((12) * pr [B, x]), ((-1) * pr [A, A])], Wh b (dvT A B x), PA W5.heap.size #[.bool false, .slice none 0 0] 37] (by kernel_rfl) (by kernel_rfl) (by kernel_rfl) ⟨⟨_, _, _, rfl⟩, trivial⟩ ⟨IsV.closed _, Wh.closed _ _, Wh.closed _ _, Wh.closed _ _, Wh.closed _ _, IsWs.closed _, Wh.closed _ _, IsV.closed _, Wh.closed _ _, Wh.closed _ _, Wh.closed _ _, IsWs.closed _, Wh.closed _ _, IsV.closed _, Wh.closed _ _, Wh.closed _ _, IsWs.closed _, Wh.closed _ _, IsV.closed _, Wh.closed _ _, Wh.closed _ _, IsWs.closed _, Wh.closed _ _, IsWs.closed _, Wh.closed _ _, PA.closed _ _ _, trivial⟩ ⟨?_, ?_, ?_, ?_, ?_, ?_, ?_, ?_, ?_, ?_, ?_, ?_, ?_, ?_, ?_, ?_, ?_, ?_, ?_, ?_, ?_, ?_, ?_, ?_, ?_, ?_, trivial⟩ ?_
  · refine StepT.q _ (by rfl) (by rfl) fun ρ w' H => ?_
    exact OpTo.move _ rfl (H.bas 10 (by kernel_rfl))
  · refine StepT.q _ (by rfl) (by rfl) fun ρ w' H => ?_
    have hx : ρ (.tmp 9) = .pointer (some ⟨r9, 0, none⟩) := H.bas 9 (by kernel_rfl); exact op_ldW _ rfl hx (kx.next H.bel)
  · refine StepT.q _ (by rfl) (by rfl) fun ρ w' H => ?_
    have hx : ρ (.tmp 9) = .pointer (some ⟨r9, 0, none⟩) := H.bas 9 (by kernel_rfl); exact op_ldW _ rfl hx (kx.next H.bel)
  · refine StepT.q _ (by rfl) (by rfl) fun ρ w' H => ?_
    have hx : ρ (.tmp 9) = .pointer (some ⟨r9, 0, none⟩) := H.bas 9 (by kernel_rfl); exact op_ldW _ rfl hx (kx.next H.bel)
  · refine StepT.q _ (by rfl) (by rfl) fun ρ w' H => ?_
    have hx : ρ (.tmp 9) = .pointer (some ⟨r9, 0, none⟩) := H.bas 9 (by kernel_rfl); exact op_ldW _ rfl hx (kx.next H.bel)
  · refine StepT.q _ (by rfl) (by rfl) fun ρ w' H => ?_
    obtain ⟨v1, e1, p1⟩ := H.dep 1 49 (by kernel_rfl)
    have p1 : (Wh b x) v1 w' := p1
    obtain ⟨v2, e2, p2⟩ := H.dep 2 50 (by kernel_rfl)
    have p2 : (Wh b x) v2 w' := p2
    obtain ⟨v3, e3, p3⟩ := H.dep 3 51 (by kernel_rfl)
    have p3 : (Wh b x) v3 w' := p3
    obtain ⟨v4, e4, p4⟩ := H.dep 4 52 (by kernel_rfl)
    have p4 : (Wh b x) v4 w' := p4
    exact op_bs4 _ _ _ _ _ _ _ _ rfl (by rw [e1]; exact p1) (by rw [e2]; exact p2) (by rw [e3]; exact p3) (by rw [e4]; exact p4)
  · refine StepT.q _ (by rfl) (by rfl) fun ρ w' H => ?_
    obtain ⟨v0, e0, p0⟩ := H.dep 0 48 (by kernel_rfl)
    obtain rfl : v0 = .func (.func 78) #[] #[] := p0
    obtain ⟨v5, e5, p5⟩ := H.dep 5 53 (by kernel_rfl)
    have p5 : (IsWs [x, x, x, x]) v5 w' := p5
    exact OpTo.call 78 #[(Value.int IntKind.i64 3), v5] _ _ _ rfl (e0) (enters_of Tryz.func78 (by kernel_rfl) rfl) (by simp [e5, H.con]) ((c_timesW (3) [x, x, x, x] v5 (by omega) (by simp) (by simp) (List.forall_mem_cons.2 ⟨zx, List.forall_mem_cons.2 ⟨zx, List.forall_mem_cons.2 ⟨zx, List.forall_mem_cons.2 ⟨zx, fun _ h => (by cases h)⟩⟩⟩⟩) w' p5).mono fun e w2 ⟨v, h1, h2, h3⟩ => ⟨v, h1, h3, h2.le (Nat.le_trans hbW H.bel.size)⟩)
  · refine StepT.q _ (by rfl) (by rfl) fun ρ w' H => ?_
    exact OpTo.move _ rfl (H.bas 10 (by kernel_rfl))
  · refine StepT.q _ (by rfl) (by rfl) fun ρ w' H => ?_
    have hx : ρ (.tmp 7) = .pointer (some ⟨r7, 0, none⟩) := H.bas 7 (by kernel_rfl); exact op_ldW _ rfl hx (kA.next H.bel)
  · refine StepT.q _ (by rfl) (by rfl) fun ρ w' H => ?_
    have hx : ρ (.tmp 9) = .pointer (some ⟨r9, 0, none⟩) := H.bas 9 (by kernel_rfl); exact op_ldW _ rfl hx (kx.next H.bel)
  · refine StepT.q _ (by rfl) (by rfl) fun ρ w' H => ?_
    have hx : ρ (.tmp 9) = .pointer (some ⟨r9, 0, none⟩) := H.bas 9 (by kernel_rfl); exact op_ldW _ rfl hx (kx.next H.bel)
  · refine StepT.q _ (by rfl) (by rfl) fun ρ w' H => ?_
    obtain ⟨v8, e8, p8⟩ := H.dep 8 56 (by kernel_rfl)
    have p8 : (Wh b A) v8 w' := p8
    obtain ⟨v9, e9, p9⟩ := H.dep 9 57 (by kernel_rfl)
    have p9 : (Wh b x) v9 w' := p9
    obtain ⟨v10, e10, p10⟩ := H.dep 10 58 (by kernel_rfl)
    have p10 : (Wh b x) v10 w' := p10
    exact op_bs3 _ _ _ _ _ _ rfl (by rw [e8]; exact p8) (by rw [e9]; exact p9) (by rw [e10]; exact p10)
  · refine StepT.q _ (by rfl) (by rfl) fun ρ w' H => ?_
    obtain ⟨v7, e7, p7⟩ := H.dep 7 55 (by kernel_rfl)
    obtain rfl : v7 = .func (.func 78) #[] #[] := p7
    obtain ⟨v11, e11, p11⟩ := H.dep 11 59 (by kernel_rfl)
    have p11 : (IsWs [A, x, x]) v11 w' := p11
    exact OpTo.call 78 #[(Value.int IntKind.i64 6), v11] _ _ _ rfl (e7) (enters_of Tryz.func78 (by kernel_rfl) rfl) (by simp [e11, H.con]) ((c_timesW (6) [A, x, x] v11 (by omega) (by simp) (by simp) (List.forall_mem_cons.2 ⟨zA, List.forall_mem_cons.2 ⟨zx, List.forall_mem_cons.2 ⟨zx, fun _ h => (by cases h)⟩⟩⟩) w' p11).mono fun e w2 ⟨v, h1, h2, h3⟩ => ⟨v, h1, h3, h2.le (Nat.le_trans hbW H.bel.size)⟩)
  · refine StepT.q _ (by rfl) (by rfl) fun ρ w' H => ?_
    exact OpTo.move _ rfl (H.bas 10 (by kernel_rfl))
  · refine StepT.q _ (by rfl) (by rfl) fun ρ w' H => ?_
    have hx : ρ (.tmp 8) = .pointer (some ⟨r8, 0, none⟩) := H.bas 8 (by kernel_rfl); exact op_ldW _ rfl hx (kB.next H.bel)
  · refine StepT.q _ (by rfl) (by rfl) fun ρ w' H => ?_
    have hx : ρ (.tmp 9) = .pointer (some ⟨r9, 0, none⟩) := H.bas 9 (by kernel_rfl); exact op_ldW _ rfl hx (kx.next H.bel)
  · refine StepT.q _ (by rfl) (by rfl) fun ρ w' H => ?_
    obtain ⟨v14, e14, p14⟩ := H.dep 14 62 (by kernel_rfl)
    have p14 : (Wh b B) v14 w' := p14
    obtain ⟨v15, e15, p15⟩ := H.dep 15 63 (by kernel_rfl)
    have p15 : (Wh b x) v15 w' := p15
    exact op_bs2 _ _ _ _ rfl (by rw [e14]; exact p14) (by rw [e15]; exact p15)
  · refine StepT.q _ (by rfl) (by rfl) fun ρ w' H => ?_
    obtain ⟨v13, e13, p13⟩ := H.dep 13 61 (by kernel_rfl)
    obtain rfl : v13 = .func (.func 78) #[] #[] := p13
    obtain ⟨v16, e16, p16⟩ := H.dep 16 64 (by kernel_rfl)
    have p16 : (IsWs [B, x]) v16 w' := p16
    exact OpTo.call 78 #[(Value.int IntKind.i64 12), v16] _ _ _ rfl (e13) (enters_of Tryz.func78 (by kernel_rfl) rfl) (by simp [e16, H.con]) ((c_timesW (12) [B, x] v16 (by omega) (by simp) (by simp) (List.forall_mem_cons.2 ⟨zB, List.forall_mem_cons.2 ⟨zx, fun _ h => (by cases h)⟩⟩) w' p16).mono fun e w2 ⟨v, h1, h2, h3⟩ => ⟨v, h1, h3, h2.le (Nat.le_trans hbW H.bel.size)⟩)
  · refine StepT.q _ (by rfl) (by rfl) fun ρ w' H => ?_
    exact OpTo.move _ rfl (H.bas 10 (by kernel_rfl))
  · refine StepT.q _ (by rfl) (by rfl) fun ρ w' H => ?_
    have hx : ρ (.tmp 7) = .pointer (some ⟨r7, 0, none⟩) := H.bas 7 (by kernel_rfl); exact op_ldW _ rfl hx (kA.next H.bel)
  · refine StepT.q _ (by rfl) (by rfl) fun ρ w' H => ?_
    have hx : ρ (.tmp 7) = .pointer (some ⟨r7, 0, none⟩) := H.bas 7 (by kernel_rfl); exact op_ldW _ rfl hx (kA.next H.bel)
  · refine StepT.q _ (by rfl) (by rfl) fun ρ w' H => ?_
    obtain ⟨v19, e19, p19⟩ := H.dep 19 67 (by kernel_rfl)
    have p19 : (Wh b A) v19 w' := p19
    obtain ⟨v20, e20, p20⟩ := H.dep 20 68 (by kernel_rfl)
    have p20 : (Wh b A) v20 w' := p20
    exact op_bs2 _ _ _ _ rfl (by rw [e19]; exact p19) (by rw [e20]; exact p20)
  · refine StepT.q _ (by rfl) (by rfl) fun ρ w' H => ?_
    obtain ⟨v18, e18, p18⟩ := H.dep 18 66 (by kernel_rfl)
    obtain rfl : v18 = .func (.func 78) #[] #[] := p18
    obtain ⟨v21, e21, p21⟩ := H.dep 21 69 (by kernel_rfl)
    have p21 : (IsWs [A, A]) v21 w' := p21
    exact OpTo.call 78 #[(Value.int IntKind.i64 (-1)), v21] _ _ _ rfl (e18) (enters_of Tryz.func78 (by kernel_rfl) rfl) (by simp [e21, H.con]) ((c_timesW (-1) [A, A] v21 (by omega) (by simp) (by simp) (List.forall_mem_cons.2 ⟨zA, List.forall_mem_cons.2 ⟨zA, fun _ h => (by cases h)⟩⟩) w' p21).mono fun e w2 ⟨v, h1, h2, h3⟩ => ⟨v, h1, h3, h2.le (Nat.le_trans hbW H.bel.size)⟩)
  · refine StepT.q _ (by rfl) (by rfl) fun ρ w' H => ?_
    obtain ⟨v6, e6, p6⟩ := H.dep 6 54 (by kernel_rfl)
    have p6 : (Wh b ((3) * pr [x, x, x, x])) v6 w' := p6
    obtain ⟨v12, e12, p12⟩ := H.dep 12 60 (by kernel_rfl)
    have p12 : (Wh b ((6) * pr [A, x, x])) v12 w' := p12
    obtain ⟨v17, e17, p17⟩ := H.dep 17 65 (by kernel_rfl)
    have p17 : (Wh b ((12) * pr [B, x])) v17 w' := p17
    obtain ⟨v22, e22, p22⟩ := H.dep 22 70 (by kernel_rfl)
    have p22 : (Wh b ((-1) * pr [A, A])) v22 w' := p22
    exact op_bs4 _ _ _ _ _ _ _ _ rfl (by rw [e6]; exact p6) (by rw [e12]; exact p12) (by rw [e17]; exact p17) (by rw [e22]; exact p22)
  · refine StepT.q _ (by rfl) (by rfl) fun ρ w' H => ?_
    obtain ⟨v23, e23, p23⟩ := H.dep 23 71 (by kernel_rfl)
    have p23 : (IsWs [((3) * pr [x, x, x, x]), ((6) * pr [A, x, x]), ((12) * pr [B, x]), ((-1) * pr [A, A])]) v23 w' := p23
    exact OpTo.call 80 #[v23] _ _ _ rfl (H.fn 80) (enters_of Tryz.func80 (by kernel_rfl) rfl) (by simp [e23]) ((hT.out _ w' p23).mono fun e w2 ⟨v, h1, h2, h3⟩ => ⟨v, h1, h3, h2.le (Nat.le_trans hbW H.bel.size)⟩)
  · refine StepT.a _ (by rfl) fun ρ w' H => ?_
    exact OpTo.alloc rfl (fun w => by simp [go_sem]) H.bel.size
  intro vs Wt hBt hDt
  have hV24 : (Wh b (dvT A B x)) (vs 24) Wt := hDt.1 24 (by omega)
  have hV25 : (PA W5.heap.size #[.bool false, .slice none 0 0] 37) (vs 25) Wt := hDt.1 25 (by omega)
  obtain ⟨r13, ea13, hr13, kr13⟩ := hV25
  clear hDt
  simp only [mergeS, Nat.reduceBEq, cond_true, cond_false, Nat.reduceAdd, List.drop_succ_cons, List.drop_zero, ea13]
  obtain ⟨lv13, ev13, rv13, cv13⟩ := hV24.cell
  obtain ⟨sl13, sc13, rfl, _⟩ := id rv13.1
  simp only [ev13]
  have x0 : Wt.cell? ⟨r13, 0, none⟩ = some (.bool false) := kr13.cell 0
  have x1 : Wt.cell? ⟨r13, 1, none⟩ = some (.slice none 0 0) := kr13.cell 1
  have x2 := kr13.frozen 0
  have x3 := kr13.frozen 1
  have x4 := kr13.lt
  have kT : BlkW b r13 (dvT A B x) ((Wt.setCell ⟨r13, 0, none⟩ (.bool (decide (dvT A B x < 0)))).setCell ⟨r13, 1, none⟩ (.slice sl13 (dg (dvT A B x).natAbs).length sc13)) := BlkW.put kr13 rfl rv13 cv13
  have hBf : Below W5.heap.size W5 ((Wt.setCell ⟨r13, 0, none⟩ (.bool (decide (dvT A B x < 0)))).setCell ⟨r13, 1, none⟩ (.slice sl13 (dg (dvT A B x).natAbs).length sc13)) := (hBt.setCell hr13 _).setCell hr13 _
  replace kR := kR.next hBf
  replace kA := kA.next hBf
  replace kB := kB.next hBf
  replace kx := kx.next hBf
  replace kG := kG.next hBf
  replace hb0 : Below b w _ := below_step hBf hbW hb0
  replace hbW := Nat.le_trans hbW hBf.size
  clear hV24 hBt kr13 ev13 rv13 cv13
  go_upto_region 7 with (fail)
  generalize (World.setCell (World.setCell _ _ _) _ _) = W6 at *
  clear x0 x1 x2 x3 x4 hBf hr13
  refine wp_region_tab 54 [53] [(53, 14), (0, 73), (1, 74), (2, 75), (3, 76), (4, 77), (5, 78), (6, 79), (7, 80), (8, 81), (9, 82), (10, 83), (11, 84), (12, 85), (13, 86), (14, 87), (15, 88), (16, 89), (17, 90), (18, 91), (19, 92), (20, 93), (21, 94), (22, 95), (23, 96), (24, 97), (25, 98), (26, 99), (27, 100), (28, 101), (29, 102), (30, 103), (31, 104), (32, 105), (33, 106), (34, 107), (35, 108), (36, 109), (37, 110), (38, 111), (39, 112), (40, 113), (41, 114), (42, 115), (43, 116), (44, 117), (45, 118), (46, 119), (47, 120), (48, 121), (49, 122), (50, 123), (51, 124), (52, 125)] [IsV (.func (.func 78) #[] #[]), IsV (.func (.func 78) #[] #[]), Wh b x, Wh b x, Wh b x, Wh b x, Wh b x, Wh b x, IsWs [x, x, x, x, x, x], Wh b ((1) * pr [x, x, x, x, x, x]), IsV (.func (.func 78) #[] #[]), Wh b A, Wh b x, Wh b x, Wh b x, Wh b x, IsWs [A, x, x, x, x], Wh b ((5) * pr [A, x, x, x, x]), IsV (.func (.func 78) #[] #[]), Wh b B, Wh b x, Wh b x, Wh b x, IsWs [B, x, x, x], Wh b ((20) * pr [B, x, x, x]), IsV (.func (.func 78) #[] #[]), Wh b A, Wh b A, Wh b x, Wh b x, IsWs [A, A, x, x], Wh b ((-5) * pr [A, A, x, x]), IsV (.func (.func 78) #[] #[]), Wh b A, Wh b B, Wh b x, IsWs [A, B, x], Wh b ((-4) * pr [A, B, x]), IsV (.func (.func 78) #[] #[]), Wh b B, Wh b B, IsWs [B, B], Wh b ((-8) * pr [B, B]), IsV (.func (.func 78) #[] #[]), Wh b A, Wh b A, Wh b A, IsWs [A, A, A], Wh b ((-1) * pr [A, A, A]), IsWs [((1) * pr [x, x, x, x, x, x]), ((5) * pr [A, x, x, x, x]), ((20) * pr [B, x, x, x]), ((-5) * pr [A, A, x, x]), ((-4) * pr [A, B, x]), ((-8) * pr [B, B]), ((-1) * pr [A, A, A])], Wh b (dwR A B x), IsWs [(dwR A B x)], Wh b (dvQ A B x), PA W6.heap.size #[.bool false, .slice none 0 0] 37] (by kernel_rfl) (by kernel_rfl) (by kernel_rfl) ⟨⟨_, _, _, rfl⟩, trivial⟩ ⟨IsV.closed _, IsV.closed _, Wh.closed _ _, Wh.closed _ _, Wh.closed _ _, Wh.closed _ _, Wh.closed _ _, Wh.closed _ _, IsWs.closed _, Wh.closed _ _, IsV.closed _, Wh.closed _ _, Wh.closed _ _, Wh.closed _ _, Wh.closed _ _, Wh.closed _ _, IsWs.closed _, Wh.closed _ _, IsV.closed _, Wh.closed _ _, Wh.closed _ _, Wh.closed _ _, Wh.closed _ _, IsWs.closed _, Wh.closed _ _, IsV.closed _, Wh.closed _ _, Wh.closed _ _, Wh.closed _ _, Wh.closed _ _, IsWs.closed _, Wh.closed _ _, IsV.closed _, Wh.closed _ _, Wh.closed _ _, Wh.closed _ _, IsWs.closed _, Wh.closed _ _, IsV.closed _, Wh.closed _ _, Wh.closed _ _, IsWs.closed _, Wh.closed _ _, IsV.closed _, Wh.closed _ _, Wh.closed _ _, Wh.closed _ _, IsWs.closed _, Wh.closed _ _, IsWs.closed _, Wh.closed _ _, IsWs.closed _, Wh.closed _ _, PA.closed _ _ _, trivial⟩ ⟨?_, ?_, ?_, ?_, ?_, ?_, ?_, ?_, ?_, ?_, ?_, ?_, ?_, ?_, ?_, ?_, ?_, ?_, ?_, ?_, ?_, ?_, ?_, ?_, ?_, ?_, ?_, ?_, ?_, ?_, ?_, ?_, ?_, ?_, ?_, ?_, ?_, ?_, ?_, ?_, ?_, ?_, ?_, ?_, ?_, ?_, ?_, ?_, ?_, ?_, ?_, ?_, ?_, ?_, trivial⟩ ?_
  · refine StepT.q _ (by rfl) (by rfl) fun ρ w' H => ?_
    exact OpTo.move _ rfl (H.bas 10 (by kernel_rfl))
  · refine StepT.q _ (by rfl) (by rfl) fun ρ w' H => ?_
    exact OpTo.move _ rfl (H.bas 10 (by kernel_rfl))
  · refine StepT.q _ (by rfl) (by rfl) fun ρ w' H => ?_
    have hx : ρ (.tmp 9) = .pointer (some ⟨r9, 0, none⟩) := H.bas 9 (by kernel_rfl); exact op_ldW _ rfl hx (kx.next H.bel)
  · refine StepT.q _ (by rfl) (by rfl) fun ρ w' H => ?_
    have hx : ρ (.tmp 9) = .pointer (some ⟨r9, 0, none⟩) := H.bas 9 (by kernel_rfl); exact op_ldW _ rfl hx (kx.next H.bel)
  · refine StepT.q _ (by rfl) (by rfl) fun ρ w' H => ?_
    have hx : ρ (.tmp 9) = .pointer (some ⟨r9, 0, none⟩) := H.bas 9 (by kernel_rfl); exact op_ldW _ rfl hx (kx.next H.bel)
  · refine StepT.q _ (by rfl) (by rfl) fun ρ w' H => ?_
    have hx : ρ (.tmp 9) = .pointer (some ⟨r9, 0, none⟩) := H.bas 9 (by kernel_rfl); exact op_ldW _ rfl hx (kx.next H.bel)
  · refine StepT.q _ (by rfl) (by rfl) fun ρ w' H => ?_
    have hx : ρ (.tmp 9) = .pointer (some ⟨r9, 0, none⟩) := H.bas 9 (by kernel_rfl); exact op_ldW _ rfl hx (kx.next H.bel)
  · refine StepT.q _ (by rfl) (by rfl) fun ρ w' H => ?_
    have hx : ρ (.tmp 9) = .pointer (some ⟨r9, 0, none⟩) := H.bas 9 (by kernel_rfl); exact op_ldW _ rfl hx (kx.next H.bel)
  · refine StepT.q _ (by rfl) (by rfl) fun ρ w' H => ?_
    obtain ⟨v2, e2, p2⟩ := H.dep 2 75 (by kernel_rfl)
    have p2 : (Wh b x) v2 w' := p2
    obtain ⟨v3, e3, p3⟩ := H.dep 3 76 (by kernel_rfl)
    have p3 : (Wh b x) v3 w' := p3
    obtain ⟨v4, e4, p4⟩ := H.dep 4 77 (by kernel_rfl)
    have p4 : (Wh b x) v4 w' := p4
    obtain ⟨v5, e5, p5⟩ := H.dep 5 78 (by kernel_rfl)
    have p5 : (Wh b x) v5 w' := p5
    obtain ⟨v6, e6, p6⟩ := H.dep 6 79 (by kernel_rfl)
    have p6 : (Wh b x) v6 w' := p6
    obtain ⟨v7, e7, p7⟩ := H.dep 7 80 (by kernel_rfl)
    have p7 : (Wh b x) v7 w' := p7
    exact op_bs6 _ _ _ _ _ _ _ _ _ _ _ _ rfl (by rw [e2]; exact p2) (by rw [e3]; exact p3) (by rw [e4]; exact p4) (by rw [e5]; exact p5) (by rw [e6]; exact p6) (by rw [e7]; exact p7)
  · refine StepT.q _ (by rfl) (by rfl) fun ρ w' H => ?_
    obtain ⟨v1, e1, p1⟩ := H.dep 1 74 (by kernel_rfl)
    obtain rfl : v1 = .func (.func 78) #[] #[] := p1
    obtain ⟨v8, e8, p8⟩ := H.dep 8 81 (by kernel_rfl)
    have p8 : (IsWs [x, x, x, x, x, x]) v8 w' := p8
    exact OpTo.call 78 #[(Value.int IntKind.i64 1), v8] _ _ _ rfl (e1) (enters_of Tryz.func78 (by kernel_rfl) rfl) (by simp [e8, H.con]) ((c_timesW (1) [x, x, x, x, x, x] v8 (by omega) (by simp) (by simp) (List.forall_mem_cons.2 ⟨zx, List.forall_mem_cons.2 ⟨zx, List.forall_mem_cons.2 ⟨zx, List.forall_mem_cons.2 ⟨zx, List.forall_mem_cons.2 ⟨zx, List.forall_mem_cons.2 ⟨zx, fun _ h => (by cases h)⟩⟩⟩⟩⟩⟩) w' p8).mono fun e w2 ⟨v, h1, h2, h3⟩ => ⟨v, h1, h3, h2.le (Nat.le_trans hbW H.bel.size)⟩)
  · refine StepT.q _ (by rfl) (by rfl) fun ρ w' H => ?_
    exact OpTo.move _ rfl (H.bas 10 (by kernel_rfl))
  · refine StepT.q _ (by rfl) (by rfl) fun ρ w' H => ?_
    have hx : ρ (.tmp 7) = .pointer (some ⟨r7, 0, none⟩) := H.bas 7 (by kernel_rfl); exact op_ldW _ rfl hx (kA.next H.bel)
  · refine StepT.q _ (by rfl) (by rfl) fun ρ w' H => ?_
    have hx : ρ (.tmp 9) = .pointer (some ⟨r9, 0, none⟩) := H.bas 9 (by kernel_rfl); exact op_ldW _ rfl hx (kx.next H.bel)
  · refine StepT.q _ (by rfl) (by rfl) fun ρ w' H => ?_
    have hx : ρ (.tmp 9) = .pointer (some ⟨r9, 0, none⟩) := H.bas 9 (by kernel_rfl); exact op_ldW _ rfl hx (kx.next H.bel)
  · refine StepT.q _ (by rfl) (by rfl) fun ρ w' H => ?_
    have hx : ρ (.tmp 9) = .pointer (some ⟨r9, 0, none⟩) := H.bas 9 (by kernel_rfl); exact op_ldW _ rfl hx (kx.next H.bel)
  · refine StepT.q _ (by rfl) (by rfl) fun ρ w' H => ?_
    have hx : ρ (.tmp 9) = .pointer (some ⟨r9, 0, none⟩) := H.bas 9 (by kernel_rfl); exact op_ldW _ rfl hx (kx.next H.bel)
  · refine StepT.q _ (by rfl) (by rfl) fun ρ w' H => ?_
    obtain ⟨v11, e11, p11⟩ := H.dep 11 84 (by kernel_rfl)
    have p11 : (Wh b A) v11 w' := p11
    obtain ⟨v12, e12, p12⟩ := H.dep 12 85 (by kernel_rfl)
    have p12 : (Wh b x) v12 w' := p12
    obtain ⟨v13, e13, p13⟩ := H.dep 13 86 (by kernel_rfl)
    have p13 : (Wh b x) v13 w' := p13
    obtain ⟨v14, e14, p14⟩ := H.dep 14 87 (by kernel_rfl)
    have p14 : (Wh b x) v14 w' := p14
    obtain ⟨v15, e15, p15⟩ := H.dep 15 88 (by kernel_rfl)
    have p15 : (Wh b x) v15 w' := p15
    exact op_bs5 _ _ _ _ _ _ _ _ _ _ rfl (by rw [e11]; exact p11) (by rw [e12]; exact p12) (by rw [e13]; exact p13) (by rw [e14]; exact p14) (by rw [e15]; exact p15)
  · refine StepT.q _ (by rfl) (by rfl) fun ρ w' H => ?_
    obtain ⟨v10, e10, p10⟩ := H.dep 10 83 (by kernel_rfl)
    obtain rfl : v10 = .func (.func 78) #[] #[] := p10
    obtain ⟨v16, e16, p16⟩ := H.dep 16 89 (by kernel_rfl)
    have p16 : (IsWs [A, x, x, x, x]) v16 w' := p16
    exact OpTo.call 78 #[(Value.int IntKind.i64 5), v16] _ _ _ rfl (e10) (enters_of Tryz.func78 (by kernel_rfl) rfl) (by simp [e16, H.con]) ((c_timesW (5) [A, x, x, x, x] v16 (by omega) (by simp) (by simp) (List.forall_mem_cons.2 ⟨zA, List.forall_mem_cons.2 ⟨zx, List.forall_mem_cons.2 ⟨zx, List.forall_mem_cons.2 ⟨zx, List.forall_mem_cons.2 ⟨zx, fun _ h => (by cases h)⟩⟩⟩⟩⟩) w' p16).mono fun e w2 ⟨v, h1, h2, h3⟩ => ⟨v, h1, h3, h2.le (Nat.le_trans hbW H.bel.size)⟩)
  · refine StepT.q _ (by rfl) (by rfl) fun ρ w' H => ?_
    exact OpTo.move _ rfl (H.bas 10 (by kernel_rfl))
  · refine StepT.q _ (by rfl) (by rfl) fun ρ w' H => ?_
    have hx : ρ (.tmp 8) = .pointer (some ⟨r8, 0, none⟩) := H.bas 8 (by kernel_rfl); exact op_ldW _ rfl hx (kB.next H.bel)
  · refine StepT.q _ (by rfl) (by rfl) fun ρ w' H => ?_
    have hx : ρ (.tmp 9) = .pointer (some ⟨r9, 0, none⟩) := H.bas 9 (by kernel_rfl); exact op_ldW _ rfl hx (kx.next H.bel)
  · refine StepT.q _ (by rfl) (by rfl) fun ρ w' H => ?_
    have hx : ρ (.tmp 9) = .pointer (some ⟨r9, 0, none⟩) := H.bas 9 (by kernel_rfl); exact op_ldW _ rfl hx (kx.next H.bel)
  · refine StepT.q _ (by rfl) (by rfl) fun ρ w' H => ?_
    have hx : ρ (.tmp 9) = .pointer (some ⟨r9, 0, none⟩) := H.bas 9 (by kernel_rfl); exact op_ldW _ rfl hx (kx.next H.bel)
  · refine StepT.q _ (by rfl) (by rfl) fun ρ w' H => ?_
    obtain ⟨v19, e19, p19⟩ := H.dep 19 92 (by kernel_rfl)
    have p19 : (Wh b B) v19 w' := p19
    obtain ⟨v20, e20, p20⟩ := H.dep 20 93 (by kernel_rfl)
    have p20 : (Wh b x) v20 w' := p20
    obtain ⟨v21, e21, p21⟩ := H.dep 21 94 (by kernel_rfl)
    have p21 : (Wh b x) v21 w' := p21
    obtain ⟨v22, e22, p22⟩ := H.dep 22 95 (by kernel_rfl)
    have p22 : (Wh b x) v22 w' := p22
    exact op_bs4 _ _ _ _ _ _ _ _ rfl (by rw [e19]; exact p19) (by rw [e20]; exact p20) (by rw [e21]; exact p21) (by rw [e22]; exact p22)
  · refine StepT.q _ (by rfl) (by rfl) fun ρ w' H => ?_
    obtain ⟨v18, e18, p18⟩ := H.dep 18 91 (by kernel_rfl)
    obtain rfl : v18 = .func (.func 78) #[] #[] := p18
    obtain ⟨v23, e23, p23⟩ := H.dep 23 96 (by kernel_rfl)
    have p23 : (IsWs [B, x, x, x]) v23 w' := p23
    exact OpTo.call 78 #[(Value.int IntKind.i64 20), v23] _ _ _ rfl (e18) (enters_of Tryz.func78 (by kernel_rfl) rfl) (by simp [e23, H.con]) ((c_timesW (20) [B, x, x, x] v23 (by omega) (by simp) (by simp) (List.forall_mem_cons.2 ⟨zB, List.forall_mem_cons.2 ⟨zx, List.forall_mem_cons.2 ⟨zx, List.forall_mem_cons.2 ⟨zx, fun _ h => (by cases h)⟩⟩⟩⟩) w' p23).mono fun e w2 ⟨v, h1, h2, h3⟩ => ⟨v, h1, h3, h2.le (Nat.le_trans hbW H.bel.size)⟩)
  · refine StepT.q _ (by rfl) (by rfl) fun ρ w' H => ?_
    exact OpTo.move _ rfl (H.bas 10 (by kernel_rfl))
  · refine StepT.q _ (by rfl) (by rfl) fun ρ w' H => ?_
    have hx : ρ (.tmp 7) = .pointer (some ⟨r7, 0, none⟩) := H.bas 7 (by kernel_rfl); exact op_ldW _ rfl hx (kA.next H.bel)
  · refine StepT.q _ (by rfl) (by rfl) fun ρ w' H => ?_
    have hx : ρ (.tmp 7) = .pointer (some ⟨r7, 0, none⟩) := H.bas 7 (by kernel_rfl); exact op_ldW _ rfl hx (kA.next H.bel)
  · refine StepT.q _ (by rfl) (by rfl) fun ρ w' H => ?_
    have hx : ρ (.tmp 9) = .pointer (some ⟨r9, 0, none⟩) := H.bas 9 (by kernel_rfl); exact op_ldW _ rfl hx (kx.next H.bel)
  · refine StepT.q _ (by rfl) (by rfl) fun ρ w' H => ?_
    have hx : ρ (.tmp 9) = .pointer (some ⟨r9, 0, none⟩) := H.bas 9 (by kernel_rfl); exact op_ldW _ rfl hx (kx.next H.bel)
  · refine StepT.q _ (by rfl) (by rfl) fun ρ w' H => ?_
    obtain ⟨v26, e26, p26⟩ := H.dep 26 99 (by kernel_rfl)
    have p26 : (Wh b A) v26 w' := p26
    obtain ⟨v27, e27, p27⟩ := H.dep 27 100 (by kernel_rfl)
    have p27 : (Wh b A) v27 w' := p27
    obtain ⟨v28, e28, p28⟩ := H.dep 28 101 (by kernel_rfl)
    have p28 : (Wh b x) v28 w' := p28
    obtain ⟨v29, e29, p29⟩ := H.dep 29 102 (by kernel_rfl)
    have p29 : (Wh b x) v29 w' := p29
    exact op_bs4 _ _ _ _ _ _ _ _ rfl (by rw [e26]; exact p26) (by rw [e27]; exact p27) (by rw [e28]; exact p28) (by rw [e29]; exact p29)
  · refine StepT.q _ (by rfl) (by rfl) fun ρ w' H => ?_
    obtain ⟨v25, e25, p25⟩ := H.dep 25 98 (by kernel_rfl)
    obtain rfl : v25 = .func (.func 78) #[] #[] := p25
    obtain ⟨v30, e30, p30⟩ := H.dep 30 103 (by kernel_rfl)
    have p30 : (IsWs [A, A, x, x]) v30 w' := p30
    exact OpTo.call 78 #[(Value.int IntKind.i64 (-5)), v30] _ _ _ rfl (e25) (enters_of Tryz.func78 (by kernel_rfl) rfl) (by simp [e30, H.con]) ((c_timesW (-5) [A, A, x, x] v30 (by omega) (by simp) (by simp) (List.forall_mem_cons.2 ⟨zA, List.forall_mem_cons.2 ⟨zA, List.forall_mem_cons.2 ⟨zx, List.forall_mem_cons.2 ⟨zx, fun _ h => (by cases h)⟩⟩⟩⟩) w' p30).mono fun e w2 ⟨v, h1, h2, h3⟩ => ⟨v, h1, h3, h2.le (Nat.le_trans hbW H.bel.size)⟩)
  · refine StepT.q _ (by rfl) (by rfl) fun ρ w' H => ?_
    exact OpTo.move _ rfl (H.bas 10 (by kernel_rfl))
  · refine StepT.q _ (by rfl) (by rfl) fun ρ w' H => ?_
    have hx : ρ (.tmp 7) = .pointer (some ⟨r7, 0, none⟩) := H.bas 7 (by kernel_rfl); exact op_ldW _ rfl hx (kA.next H.bel)
  · refine StepT.q _ (by rfl) (by rfl) fun ρ w' H => ?_
    have hx : ρ (.tmp 8) = .pointer (some ⟨r8, 0, none⟩) := H.bas 8 (by kernel_rfl); exact op_ldW _ rfl hx (kB.next H.bel)
  · refine StepT.q _ (by rfl) (by rfl) fun ρ w' H => ?_
    have hx : ρ (.tmp 9) = .pointer (some ⟨r9, 0, none⟩) := H.bas 9 (by kernel_rfl); exact op_ldW _ rfl hx (kx.next H.bel)
  · refine StepT.q _ (by rfl) (by rfl) fun ρ w' H => ?_
    obtain ⟨v33, e33, p33⟩ := H.dep 33 106 (by kernel_rfl)
    have p33 : (Wh b A) v33 w' := p33
    obtain ⟨v34, e34, p34⟩ := H.dep 34 107 (by kernel_rfl)
    have p34 : (Wh b B) v34 w' := p34
    obtain ⟨v35, e35, p35⟩ := H.dep 35 108 (by kernel_rfl)
    have p35 : (Wh b x) v35 w' := p35
    exact op_bs3 _ _ _ _ _ _ rfl (by rw [e33]; exact p33) (by rw [e34]; exact p34) (by rw [e35]; exact p35)
  · refine StepT.q _ (by rfl) (by rfl) fun ρ w' H => ?_
    obtain ⟨v32, e32, p32⟩ := H.dep 32 105 (by kernel_rfl)
    obtain rfl : v32 = .func (.func 78) #[] #[] := p32
    obtain ⟨v36, e36, p36⟩ := H.dep 36 109 (by kernel_rfl)
    have p36 : (IsWs [A, B, x]) v36 w' := p36
    exact OpTo.call 78 #[(Value.int IntKind.i64 (-4)), v36] _ _ _ rfl (e32) (enters_of Tryz.func78 (by kernel_rfl) rfl) (by simp [e36, H.con]) ((c_timesW (-4) [A, B, x] v36 (by omega) (by simp) (by simp) (List.forall_mem_cons.2 ⟨zA, List.forall_mem_cons.2 ⟨zB, List.forall_mem_cons.2 ⟨zx, fun _ h => (by cases h)⟩⟩⟩) w' p36).mono fun e w2 ⟨v, h1, h2, h3⟩ => ⟨v, h1, h3, h2.le (Nat.le_trans hbW H.bel.size)⟩)
  · refine StepT.q _ (by rfl) (by rfl) fun ρ w' H => ?_
    exact OpTo.move _ rfl (H.bas 10 (by kernel_rfl))
  · refine StepT.q _ (by rfl) (by rfl) fun ρ w' H => ?_
    have hx : ρ (.tmp 8) = .pointer (some ⟨r8, 0, none⟩) := H.bas 8 (by kernel_rfl); exact op_ldW _ rfl hx (kB.next H.bel)
  · refine StepT.q _ (by rfl) (by rfl) fun ρ w' H => ?_
    have hx : ρ (.tmp 8) = .pointer (some ⟨r8, 0, none⟩) := H.bas 8 (by kernel_rfl); exact op_ldW _ rfl hx (kB.next H.bel)
  · refine StepT.q _ (by rfl) (by rfl) fun ρ w' H => ?_
    obtain ⟨v39, e39, p39⟩ := H.dep 39 112 (by kernel_rfl)
    have p39 : (Wh b B) v39 w' := p39
    obtain ⟨v40, e40, p40⟩ := H.dep 40 113 (by kernel_rfl)
    have p40 : (Wh b B) v40 w' := p40
    exact op_bs2 _ _ _ _ rfl (by rw [e39]; exact p39) (by rw [e40]; exact p40)
  · refine StepT.q _ (by rfl) (by rfl) fun ρ w' H => ?_
    obtain ⟨v38, e38, p38⟩ := H.dep 38 111 (by kernel_rfl)
    obtain rfl : v38 = .func (.func 78) #[] #[] := p38
    obtain ⟨v41, e41, p41⟩ := H.dep 41 114 (by kernel_rfl)
    have p41 : (IsWs [B, B]) v41 w' := p41
    exact OpTo.call 78 #[(Value.int IntKind.i64 (-8)), v41] _ _ _ rfl (e38) (enters_of Tryz.func78 (by kernel_rfl) rfl) (by simp [e41, H.con]) ((c_timesW (-8) [B, B] v41 (by omega) (by simp) (by simp) (List.forall_mem_cons.2 ⟨zB, List.forall_mem_cons.2 ⟨zB, fun _ h => (by cases h)⟩⟩) w' p41).mono fun e w2 ⟨v, h1, h2, h3⟩ => ⟨v, h1, h3, h2.le (Nat.le_trans hbW H.bel.size)⟩)
  · refine StepT.q _ (by rfl) (by rfl) fun ρ w' H => ?_
    exact OpTo.move _ rfl (H.bas 10 (by kernel_rfl))
  · refine StepT.q _ (by rfl) (by rfl) fun ρ w' H => ?_
    have hx : ρ (.tmp 7) = .pointer (some ⟨r7, 0, none⟩) := H.bas 7 (by kernel_rfl); exact op_ldW _ rfl hx (kA.next H.bel)
  · refine StepT.q _ (by rfl) (by rfl) fun ρ w' H => ?_
    have hx : ρ (.tmp 7) = .pointer (some ⟨r7, 0, none⟩) := H.bas 7 (by kernel_rfl); exact op_ldW _ rfl hx (kA.next H.bel)
  · refine StepT.q _ (by rfl) (by rfl) fun ρ w' H => ?_
    have hx : ρ (.tmp 7) = .pointer (some ⟨r7, 0, none⟩) := H.bas 7 (by kernel_rfl); exact op_ldW _ rfl hx (kA.next H.bel)
  · refine StepT.q _ (by rfl) (by rfl) fun ρ w' H => ?_
    obtain ⟨v44, e44, p44⟩ := H.dep 44 117 (by kernel_rfl)
    have p44 : (Wh b A) v44 w' := p44
    obtain ⟨v45, e45, p45⟩ := H.dep 45 118 (by kernel_rfl)
    have p45 : (Wh b A) v45 w' := p45
    obtain ⟨v46, e46, p46⟩ := H.dep 46 119 (by kernel_rfl)
    have p46 : (Wh b A) v46 w' := p46
    exact op_bs3 _ _ _ _ _ _ rfl (by rw [e44]; exact p44) (by rw [e45]; exact p45) (by rw [e46]; exact p46)
  · refine StepT.q _ (by rfl) (by rfl) fun ρ w' H => ?_
    obtain ⟨v43, e43, p43⟩ := H.dep 43 116 (by kernel_rfl)
    obtain rfl : v43 = .func (.func 78) #[] #[] := p43
    obtain ⟨v47, e47, p47⟩ := H.dep 47 120 (by kernel_rfl)
    have p47 : (IsWs [A, A, A]) v47 w' := p47
    exact OpTo.call 78 #[(Value.int IntKind.i64 (-1)), v47] _ _ _ rfl (e43) (enters_of Tryz.func78 (by kernel_rfl) rfl) (by simp [e47, H.con]) ((c_timesW (-1) [A, A, A] v47 (by omega) (by simp) (by simp) (List.forall_mem_cons.2 ⟨zA, List.forall_mem_cons.2 ⟨zA, List.forall_mem_cons.2 ⟨zA, fun _ h => (by cases h)⟩⟩⟩) w' p47).mono fun e w2 ⟨v, h1, h2, h3⟩ => ⟨v, h1, h3, h2.le (Nat.le_trans hbW H.bel.size)⟩)
  · refine StepT.q _ (by rfl) (by rfl) fun ρ w' H => ?_
    obtain ⟨v9, e9, p9⟩ := H.dep 9 82 (by kernel_rfl)
    have p9 : (Wh b ((1) * pr [x, x, x, x, x, x])) v9 w' := p9
    obtain ⟨v17, e17, p17⟩ := H.dep 17 90 (by kernel_rfl)
    have p17 : (Wh b ((5) * pr [A, x, x, x, x])) v17 w' := p17
    obtain ⟨v24, e24, p24⟩ := H.dep 24 97 (by kernel_rfl)
    have p24 : (Wh b ((20) * pr [B, x, x, x])) v24 w' := p24
    obtain ⟨v31, e31, p31⟩ := H.dep 31 104 (by kernel_rfl)
    have p31 : (Wh b ((-5) * pr [A, A, x, x])) v31 w' := p31
    obtain ⟨v37, e37, p37⟩ := H.dep 37 110 (by kernel_rfl)
    have p37 : (Wh b ((-4) * pr [A, B, x])) v37 w' := p37
    obtain ⟨v42, e42, p42⟩ := H.dep 42 115 (by kernel_rfl)
    have p42 : (Wh b ((-8) * pr [B, B])) v42 w' := p42
    obtain ⟨v48, e48, p48⟩ := H.dep 48 121 (by kernel_rfl)
    have p48 : (Wh b ((-1) * pr [A, A, A])) v48 w' := p48
    exact op_bs7 _ _ _ _ _ _ _ _ _ _ _ _ _ _ rfl (by rw [e9]; exact p9) (by rw [e17]; exact p17) (by rw [e24]; exact p24) (by rw [e31]; exact p31) (by rw [e37]; exact p37) (by rw [e42]; exact p42) (by rw [e48]; exact p48)
  · refine StepT.q _ (by rfl) (by rfl) fun ρ w' H => ?_
    obtain ⟨v49, e49, p49⟩ := H.dep 49 122 (by kernel_rfl)
    have p49 : (IsWs [((1) * pr [x, x, x, x, x, x]), ((5) * pr [A, x, x, x, x]), ((20) * pr [B, x, x, x]), ((-5) * pr [A, A, x, x]), ((-4) * pr [A, B, x]), ((-8) * pr [B, B]), ((-1) * pr [A, A, A])]) v49 w' := p49
    exact OpTo.call 80 #[v49] _ _ _ rfl (H.fn 80) (enters_of Tryz.func80 (by kernel_rfl) rfl) (by simp [e49]) ((hR.out _ w' p49).mono fun e w2 ⟨v, h1, h2, h3⟩ => ⟨v, h1, h3, h2.le (Nat.le_trans hbW H.bel.size)⟩)
  · refine StepT.q _ (by rfl) (by rfl) fun ρ w' H => ?_
    obtain ⟨v50, e50, p50⟩ := H.dep 50 123 (by kernel_rfl)
    have p50 : (Wh b (dwR A B x)) v50 w' := p50
    exact op_bs1 _ _ rfl (by rw [e50]; exact p50)
  · refine StepT.q _ (by rfl) (by rfl) fun ρ w' H => ?_
    obtain ⟨v0, e0, p0⟩ := H.dep 0 73 (by kernel_rfl)
    obtain rfl : v0 = .func (.func 78) #[] #[] := p0
    obtain ⟨v51, e51, p51⟩ := H.dep 51 124 (by kernel_rfl)
    have p51 : (IsWs [(dwR A B x)]) v51 w' := p51
    exact OpTo.call 78 #[(Value.int IntKind.i64 2), v51] _ _ _ rfl (e0) (enters_of Tryz.func78 (by kernel_rfl) rfl) (by simp [e51, H.con]) ((hQ.out _ w' p51).mono fun e w2 ⟨v, h1, h2, h3⟩ => ⟨v, h1, h3, h2.le (Nat.le_trans hbW H.bel.size)⟩)
  · refine StepT.a _ (by rfl) fun ρ w' H => ?_
    exact OpTo.alloc rfl (fun w => by simp [go_sem]) H.bel.size
  intro vs Wt hBt hDt
  have hV52 : (Wh b (dvQ A B x)) (vs 52) Wt := hDt.1 52 (by omega)
  have hV53 : (PA W6.heap.size #[.bool false, .slice none 0 0] 37) (vs 53) Wt := hDt.1 53 (by omega)
  obtain ⟨r14, ea14, hr14, kr14⟩ := hV53
  clear hDt
  simp only [mergeS, Nat.reduceBEq, cond_true, cond_false, Nat.reduceAdd, List.drop_succ_cons, List.drop_zero, ea14]
  obtain ⟨lv14, ev14, rv14, cv14⟩ := hV52.cell
  obtain ⟨sl14, sc14, rfl, _⟩ := id rv14.1
  simp only [ev14]
  have x0 : Wt.cell? ⟨r14, 0, none⟩ = some (.bool false) := kr14.cell 0
  have x1 : Wt.cell? ⟨r14, 1, none⟩ = some (.slice none 0 0) := kr14.cell 1
  have x2 := kr14.frozen 0
  have x3 := kr14.frozen 1
  have x4 := kr14.lt
  have kQ : BlkW b r14 (dvQ A B x) ((Wt.setCell ⟨r14, 0, none⟩ (.bool (decide (dvQ A B x < 0)))).setCell ⟨r14, 1, none⟩ (.slice sl14 (dg (dvQ A B x).natAbs).length sc14)) := BlkW.put kr14 rfl rv14 cv14
  have hBf : Below W6.heap.size W6 ((Wt.setCell ⟨r14, 0, none⟩ (.bool (decide (dvQ A B x < 0)))).setCell ⟨r14, 1, none⟩ (.slice sl14 (dg (dvQ A B x).natAbs).length sc14)) := (hBt.setCell hr14 _).setCell hr14 _
  replace kR := kR.next hBf
  replace kA := kA.next hBf
  replace kB := kB.next hBf
  replace kx := kx.next hBf
  replace kG := kG.next hBf
  replace kT := kT.next hBf
  replace hb0 : Below b w _ := below_step hBf hbW hb0
  replace hbW := Nat.le_trans hbW hBf.size
  clear hV52 hBt kr14 ev14 rv14 cv14
  go_upto_region 8 with (fail)
  generalize (World.setCell (World.setCell _ _ _) _ _) = W7 at *
  clear x0 x1 x2 x3 x4 hBf hr14
  clear kA kB kx hF hG hT hR hQ zA zB zx zF zQ
  refine wp_region_tab 6 [] [(0, 126), (1, 127), (2, 128), (3, 129), (4, 130), (5, 131)] [Wh b 0, Wh b 1, Wh b 1, Wh b (dvT A B x), Wh b (dvQ A B x), (fun v w => OwnsW w W7.heap.size b v [0, 1, 1, dvT A B x, dvQ A B x])] (by kernel_rfl) (by kernel_rfl) (by kernel_rfl) trivial ⟨Wh.closed _ _, Wh.closed _ _, Wh.closed _ _, Wh.closed _ _, Wh.closed _ _, fun v => OwnsW.closed W7.heap.size b v _, trivial⟩ ⟨?_, ?_, ?_, ?_, ?_, ?_, trivial⟩ ?_
  · refine StepT.q _ (by rfl) (by rfl) fun ρ w' H => ?_
    exact op_zeroW rfl
  · refine StepT.q _ (by rfl) (by rfl) fun ρ w' H => ?_
    exact OpTo.call 77 #[(Value.int IntKind.i64 1)] _ _ _ rfl (H.fn 77) (enters_of Tryz.func77 (by kernel_rfl) rfl) (by simp [H.con]) ((c_wholeOf 1 (by omega) w').mono fun e w2 ⟨v, h1, h2, h3⟩ => ⟨v, h1, h3, h2.le (Nat.le_trans hbW H.bel.size)⟩)
  · refine StepT.q _ (by rfl) (by rfl) fun ρ w' H => ?_
    exact OpTo.call 77 #[(Value.int IntKind.i64 1)] _ _ _ rfl (H.fn 77) (enters_of Tryz.func77 (by kernel_rfl) rfl) (by simp [H.con]) ((c_wholeOf 1 (by omega) w').mono fun e w2 ⟨v, h1, h2, h3⟩ => ⟨v, h1, h3, h2.le (Nat.le_trans hbW H.bel.size)⟩)
  · refine StepT.q _ (by rfl) (by rfl) fun ρ w' H => ?_
    have hx : ρ (.tmp 13) = .pointer (some ⟨r13, 0, none⟩) := H.bas 13 (by kernel_rfl); exact op_ldW _ rfl hx (kT.next H.bel)
  · refine StepT.q _ (by rfl) (by rfl) fun ρ w' H => ?_
    have hx : ρ (.tmp 14) = .pointer (some ⟨r14, 0, none⟩) := H.bas 14 (by kernel_rfl); exact op_ldW _ rfl hx (kQ.next H.bel)
  · refine StepT.q _ (by rfl) (by rfl) fun ρ w' H => ?_
    obtain ⟨v0, e0, p0⟩ := H.dep 0 126 (by kernel_rfl)
    have p0 : (Wh b 0) v0 w' := p0
    obtain ⟨v1, e1, p1⟩ := H.dep 1 127 (by kernel_rfl)
    have p1 : (Wh b 1) v1 w' := p1
    obtain ⟨v2, e2, p2⟩ := H.dep 2 128 (by kernel_rfl)
    have p2 : (Wh b 1) v2 w' := p2
    obtain ⟨v3, e3, p3⟩ := H.dep 3 129 (by kernel_rfl)
    have p3 : (Wh b (dvT A B x)) v3 w' := p3
    obtain ⟨v4, e4, p4⟩ := H.dep 4 130 (by kernel_rfl)
    have p4 : (Wh b (dvQ A B x)) v4 w' := p4
    exact op_bo5 _ _ _ _ _ _ _ _ _ _ (H.bel.size) rfl (by rw [e0]; exact p0) (by rw [e1]; exact p1) (by rw [e2]; exact p2) (by rw [e3]; exact p3) (by rw [e4]; exact p4)
  intro vs Wt hBt hDt
  have hV5 : ((fun v w => OwnsW w W7.heap.size b v [0, 1, 1, dvT A B x, dvQ A B x])) (vs 5) Wt := hDt.1 5 (by omega)
  clear hDt
  simp only [mergeS, Nat.reduceBEq, cond_true, cond_false, Nat.reduceAdd, List.drop_succ_cons, List.drop_zero]
  have kGl := kG.lt
  have kRl := kR.lt
  replace kR := kR.next hBt
  replace kG := kG.next hBt
  replace hb0 : Below b w _ := below_step hBt hbW hb0
  replace hbW := Nat.le_trans hbW hBt.size
  obtain ⟨bd, hbd⟩ : ∃ bd, W7.heap.size = bd := ⟨_, rfl⟩
  have hbdW : bd ≤ Wt.heap.size := hbd ▸ hBt.size
  have hbd1 : r12 < bd := hbd ▸ kGl
  have hbd2 : b + 1 < bd := hbd ▸ kRl
  clear hBt kT kQ kGl kRl
  have hD : OwnsW Wt W7.heap.size b (vs 5) (dwL A B x 0) := hV5
  rw [hbd] at hD
  clear hV5 hbd
  generalize vs 5 = d0 at hD ⊢
  obtain ⟨g0, cap0, rfl, _, _⟩ := hD.addr (by rw [dwL_len]; omega)
  go_upto_region 10 with (fail)
  go_loopw [15, 16] (fun dv kk wr => ∃ (k g cap : Nat), kk = .int .i64 k ∧ dv = .slice (some ⟨g, 0, none⟩) k cap ∧ 5 ≤ k ∧ (k ≤ n + 1 ∨ k = 5) ∧ OwnsW wr bd b (.slice (some ⟨g, 0, none⟩) k cap) (dwL A B x (k - 5)) ∧ BlkW b r12 (dwG A B x) wr ∧ Blk (b + 1) #[.bool false, .slice none 0 0] 37 wr ∧ bd ≤ wr.heap.size ∧ Below b w wr) (fun _ kk _ => n + 1 - (intOf kk).toNat)
  case atStart => exact ⟨5, g0, cap0, rfl, by rw [dwL_len], by omega, .inr rfl, hD, kG, kR, hbdW, hb0⟩
  case round =>
    clear hD kG kR hbdW hb0 hbW
    obtain ⟨k, g, cap, rfl, rfl, h5, hkn, hD, kG, kR, hbdW, hb0⟩ := hrel
    have hbW : b ≤ wr.heap.size := by omega
    by_cases hlt : k ≤ n
    · have hlen : (dwL A B x (k - 5)).length = k := by rw [dwL_len]; omega
      have zE : Hid (∀ i, Sz 3000 (eat (dwL A B x (k - 5)) i)) := fun i => dw_sz hA hB hx (k - 5) (by omega) i
      have HX : Hid (dwL A B x (k + 1 - 5) = dwL A B x (k - 5) ++ [dwN (dwG A B x) (dwL A B x (k - 5)) k]) := by
        show _ = _
        rw [show k + 1 - 5 = (k - 5) + 1 by omega, dwL, show 5 + (k - 5) = k by omega]
      have zG : Sz 3000 (dwG A B x) := (dv_bds hA hB hx).2.2.mono (by omega)
      generalize dwL A B x (k - 5) = xs at hD hlen zE HX
      generalize dwG A B x = G at kG HX zG ⊢
      obtain ⟨hke, hgb0, HE⟩ := hD.elt (by omega)
      clear hke
      have hgb := Lib.hid hgb0
      obtain ⟨m, hm⟩ : ∃ m, m = k / 2 := ⟨_, rfl⟩
      have hkm : (k : Int) / 2 = (m : Int) := by omega
      have hm2 : 2 ≤ m ∧ m + 2 < k := by omega
      have hk41 : k ≤ 12 := by omega
      have HN : Hid (dwN G xs k = if k % 2 = 0 then eat xs m * (eat xs (m + 2) * (eat xs (m - 1) * eat xs (m - 1)) - eat xs (m - 2) * (eat xs (m + 1) * eat xs (m + 1))) else if m % 2 = 0 then eat xs (m + 2) * (eat xs m * eat xs m * eat xs m) * G - eat xs (m - 1) * (eat xs (m + 1) * eat xs (m + 1) * eat xs (m + 1)) else eat xs (m + 2) * (eat xs m * eat xs m * eat xs m) - eat xs (m - 1) * (eat xs (m + 1) * eat xs (m + 1) * eat xs (m + 1)) * G) := by
        show _ = _
        rw [hm]; rfl
      have HK := Lib.hid hlen
      clear hm hlen hA hB hx hgb0
      by_cases he : k % 2 = 0
      · have hkI : (k : Int) % 2 = 0 := by omega
        obtain ⟨I, hI⟩ : ∃ I, I = eat xs (m + 2) * (eat xs (m - 1) * eat xs (m - 1)) - eat xs (m - 2) * (eat xs (m + 1) * eat xs (m + 1)) := ⟨_, rfl⟩
        have zI : Sz 9100 I := by
          rw [hI]
          exact (((zE.out _).mul ((zE.out _).mul (zE.out _))).sub ((zE.out _).mul ((zE.out _).mul (zE.out _)))).mono (by omega)
        have hS : Hid (∀ v w, RdWs w v [(1) * pr [eat xs (m + 2), eat xs (m - 1), eat xs (m - 1)], (-1) * pr [eat xs (m - 2), eat xs (m + 1), eat xs (m + 1)]] → Calls Tryz.prog 80 #[v] w (WhP I w)) := sums_of (by simp) (List.forall_mem_cons.2 ⟨z1 (by omega) (by simp) (by simp [zE.out]), List.forall_mem_cons.2 ⟨z1 (by omega) (by simp) (by simp [zE.out]), fun _ h => (by cases h)⟩⟩) (by rw [hI]; exact dw_ev _ _ _ _)
        have hN2 : Hid ((1) * pr [eat xs m, I] = dwN G xs k) := by
          show _ = _
          rw [HN.out, if_pos he, hI]; exact pr2 _ _
        have HI := Lib.hid hI
        clear hI
        go_upto_region 14 with (fail)
        refine wp_region_tab 39 [38] [(38, 18), (0, 142), (1, 143), (2, 144), (3, 145), (4, 146), (5, 147), (6, 148), (7, 149), (8, 150), (9, 151), (10, 152), (11, 153), (12, 154), (13, 155), (14, 156), (15, 157), (16, 158), (17, 159), (18, 160), (19, 161), (20, 162), (21, 163), (22, 164), (23, 165), (24, 166), (25, 167), (26, 168), (27, 169), (28, 170), (29, 171), (30, 172), (31, 173), (32, 174), (33, 175), (34, 176), (35, 177), (36, 178), (37, 179)] [IsV (.func (.func 78) #[] #[]), IsV (.slice (some ⟨g, 0, none⟩) k cap), IsV (.int .i64 (m : Int)), IsV (.int .i64 ((m + 2 : Nat) : Int)), IsV (.pointer (some ⟨g, (m + 2) * 2, none⟩)), Wh b (eat xs (m + 2)), IsV (.slice (some ⟨g, 0, none⟩) k cap), IsV (.int .i64 (m : Int)), IsV (.int .i64 ((m - 1 : Nat) : Int)), IsV (.pointer (some ⟨g, (m - 1) * 2, none⟩)), Wh b (eat xs (m - 1)), IsV (.slice (some ⟨g, 0, none⟩) k cap), IsV (.int .i64 (m : Int)), IsV (.int .i64 ((m - 1 : Nat) : Int)), IsV (.pointer (some ⟨g, (m - 1) * 2, none⟩)), Wh b (eat xs (m - 1)), IsWs [(eat xs (m + 2)), (eat xs (m - 1)), (eat xs (m - 1))], Wh b ((1) * pr [eat xs (m + 2), eat xs (m - 1), eat xs (m - 1)]), IsV (.func (.func 78) #[] #[]), IsV (.slice (some ⟨g, 0, none⟩) k cap), IsV (.int .i64 (m : Int)), IsV (.int .i64 ((m - 2 : Nat) : Int)), IsV (.pointer (some ⟨g, (m - 2) * 2, none⟩)), Wh b (eat xs (m - 2)), IsV (.slice (some ⟨g, 0, none⟩) k cap), IsV (.int .i64 (m : Int)), IsV (.int .i64 ((m + 1 : Nat) : Int)), IsV (.pointer (some ⟨g, (m + 1) * 2, none⟩)), Wh b (eat xs (m + 1)), IsV (.slice (some ⟨g, 0, none⟩) k cap), IsV (.int .i64 (m : Int)), IsV (.int .i64 ((m + 1 : Nat) : Int)), IsV (.pointer (some ⟨g, (m + 1) * 2, none⟩)), Wh b (eat xs (m + 1)), IsWs [(eat xs (m - 2)), (eat xs (m + 1)), (eat xs (m + 1))], Wh b ((-1) * pr [eat xs (m - 2), eat xs (m + 1), eat xs (m + 1)]), IsWs [((1) * pr [eat xs (m + 2), eat xs (m - 1), eat xs (m - 1)]), ((-1) * pr [eat xs (m - 2), eat xs (m + 1), eat xs (m + 1)])], Wh b (I), PA wr.heap.size #[.bool false, .slice none 0 0] 37] (by kernel_rfl) (by kernel_rfl) (by kernel_rfl) ⟨⟨_, _, _, rfl⟩, trivial⟩ ⟨IsV.closed _, IsV.closed _, IsV.closed _, IsV.closed _, IsV.closed _, Wh.closed _ _, IsV.closed _, IsV.closed _, IsV.closed _, IsV.closed _, Wh.closed _ _, IsV.closed _, IsV.closed _, IsV.closed _, IsV.closed _, Wh.closed _ _, IsWs.closed _, Wh.closed _ _, IsV.closed _, IsV.closed _, IsV.closed _, IsV.closed _, IsV.closed _, Wh.closed _ _, IsV.closed _, IsV.closed _, IsV.closed _, IsV.closed _, Wh.closed _ _, IsV.closed _, IsV.closed _, IsV.closed _, IsV.closed _, Wh.closed _ _, IsWs.closed _, Wh.closed _ _, IsWs.closed _, Wh.closed _ _, PA.closed _ _ _, trivial⟩ ⟨?_, ?_, ?_, ?_, ?_, ?_, ?_, ?_, ?_, ?_, ?_, ?_, ?_, ?_, ?_, ?_, ?_, ?_, ?_, ?_, ?_, ?_, ?_, ?_, ?_, ?_, ?_, ?_, ?_, ?_, ?_, ?_, ?_, ?_, ?_, ?_, ?_, ?_, ?_, trivial⟩ ?_
        · refine StepT.q _ (by rfl) (by rfl) fun ρ w' H => ?_
          exact OpTo.move _ rfl (H.bas 10 (by kernel_rfl))
        · refine StepT.q _ (by rfl) (by rfl) fun ρ w' H => ?_
          exact OpTo.move _ rfl (H.bas 15 (by kernel_rfl))
        · refine StepT.q _ (by rfl) (by rfl) fun ρ w' H => ?_
          exact OpTo.move _ rfl (H.bas 17 (by kernel_rfl))
        · refine StepT.q _ (by rfl) (by rfl) fun ρ w' H => ?_
          obtain ⟨v2, e2, p2⟩ := H.dep 2 144 (by kernel_rfl)
          obtain rfl : v2 = .int .i64 (m : Int) := p2
          exact op_addN (c := 2) _ _ rfl e2 (H.con _) (by omega)
        · refine StepT.q _ (by rfl) (by rfl) fun ρ w' H => ?_
          obtain ⟨v1, e1, p1⟩ := H.dep 1 143 (by kernel_rfl)
          obtain rfl : v1 = .slice (some ⟨g, 0, none⟩) k cap := p1
          obtain ⟨v3, e3, p3⟩ := H.dep 3 145 (by kernel_rfl)
          obtain rfl : v3 = .int .i64 ((m + 2 : Nat) : Int) := p3
          exact op_idxW _ _ rfl e1 e3 (by omega)
        · refine StepT.q _ (by rfl) (by rfl) fun ρ w' H => ?_
          obtain ⟨v4, e4, p4⟩ := H.dep 4 146 (by kernel_rfl)
          obtain rfl : v4 = .pointer (some ⟨g, (m + 2) * 2, none⟩) := p4
          exact op_eltX _ rfl e4 (HE.next H.bel) (by omega)
        · refine StepT.q _ (by rfl) (by rfl) fun ρ w' H => ?_
          exact OpTo.move _ rfl (H.bas 15 (by kernel_rfl))
        · refine StepT.q _ (by rfl) (by rfl) fun ρ w' H => ?_
          exact OpTo.move _ rfl (H.bas 17 (by kernel_rfl))
        · refine StepT.q _ (by rfl) (by rfl) fun ρ w' H => ?_
          obtain ⟨v7, e7, p7⟩ := H.dep 7 149 (by kernel_rfl)
          obtain rfl : v7 = .int .i64 (m : Int) := p7
          exact op_subN (c := 1) _ _ rfl e7 (H.con _) (by omega) (by omega)
        · refine StepT.q _ (by rfl) (by rfl) fun ρ w' H => ?_
          obtain ⟨v6, e6, p6⟩ := H.dep 6 148 (by kernel_rfl)
          obtain rfl : v6 = .slice (some ⟨g, 0, none⟩) k cap := p6
          obtain ⟨v8, e8, p8⟩ := H.dep 8 150 (by kernel_rfl)
          obtain rfl : v8 = .int .i64 ((m - 1 : Nat) : Int) := p8
          exact op_idxW _ _ rfl e6 e8 (by omega)
        · refine StepT.q _ (by rfl) (by rfl) fun ρ w' H => ?_
          obtain ⟨v9, e9, p9⟩ := H.dep 9 151 (by kernel_rfl)
          obtain rfl : v9 = .pointer (some ⟨g, (m - 1) * 2, none⟩) := p9
          exact op_eltX _ rfl e9 (HE.next H.bel) (by omega)
        · refine StepT.q _ (by rfl) (by rfl) fun ρ w' H => ?_
          exact OpTo.move _ rfl (H.bas 15 (by kernel_rfl))
        · refine StepT.q _ (by rfl) (by rfl) fun ρ w' H => ?_
          exact OpTo.move _ rfl (H.bas 17 (by kernel_rfl))
        · refine StepT.q _ (by rfl) (by rfl) fun ρ w' H => ?_
          obtain ⟨v12, e12, p12⟩ := H.dep 12 154 (by kernel_rfl)
          obtain rfl : v12 = .int .i64 (m : Int) := p12
          exact op_subN (c := 1) _ _ rfl e12 (H.con _) (by omega) (by omega)
        · refine StepT.q _ (by rfl) (by rfl) fun ρ w' H => ?_
          obtain ⟨v11, e11, p11⟩ := H.dep 11 153 (by kernel_rfl)
          obtain rfl : v11 = .slice (some ⟨g, 0, none⟩) k cap := p11
          obtain ⟨v13, e13, p13⟩ := H.dep 13 155 (by kernel_rfl)
          obtain rfl : v13 = .int .i64 ((m - 1 : Nat) : Int) := p13
          exact op_idxW _ _ rfl e11 e13 (by omega)
        · refine StepT.q _ (by rfl) (by rfl) fun ρ w' H => ?_
          obtain ⟨v14, e14, p14⟩ := H.dep 14 156 (by kernel_rfl)
          obtain rfl : v14 = .pointer (some ⟨g, (m - 1) * 2, none⟩) := p14
          exact op_eltX _ rfl e14 (HE.next H.bel) (by omega)
        · refine StepT.q _ (by rfl) (by rfl) fun ρ w' H => ?_
          obtain ⟨v5, e5, p5⟩ := H.dep 5 147 (by kernel_rfl)
          have p5 : (Wh b (eat xs (m + 2))) v5 w' := p5
          obtain ⟨v10, e10, p10⟩ := H.dep 10 152 (by kernel_rfl)
          have p10 : (Wh b (eat xs (m - 1))) v10 w' := p10
          obtain ⟨v15, e15, p15⟩ := H.dep 15 157 (by kernel_rfl)
          have p15 : (Wh b (eat xs (m - 1))) v15 w' := p15
          exact op_bs3 _ _ _ _ _ _ rfl (by rw [e5]; exact p5) (by rw [e10]; exact p10) (by rw [e15]; exact p15)
        · refine StepT.q _ (by rfl) (by rfl) fun ρ w' H => ?_
          obtain ⟨v0, e0, p0⟩ := H.dep 0 142 (by kernel_rfl)
          obtain rfl : v0 = .func (.func 78) #[] #[] := p0
          obtain ⟨v16, e16, p16⟩ := H.dep 16 158 (by kernel_rfl)
          have p16 : (IsWs [(eat xs (m + 2)), (eat xs (m - 1)), (eat xs (m - 1))]) v16 w' := p16
          exact OpTo.call 78 #[(Value.int IntKind.i64 1), v16] _ _ _ rfl (e0) (enters_of Tryz.func78 (by kernel_rfl) rfl) (by simp [e16, H.con]) ((c_timesS 3000 (1) [eat xs (m + 2), eat xs (m - 1), eat xs (m - 1)] v16 (by omega) (by simp) (by simp) (by simp) (List.forall_mem_cons.2 ⟨zE.out _, List.forall_mem_cons.2 ⟨zE.out _, List.forall_mem_cons.2 ⟨zE.out _, fun _ h => (by cases h)⟩⟩⟩) w' p16).mono fun e w2 ⟨v, h1, h2, h3⟩ => ⟨v, h1, h3, h2.le (Nat.le_trans hbW H.bel.size)⟩)
        · refine StepT.q _ (by rfl) (by rfl) fun ρ w' H => ?_
          exact OpTo.move _ rfl (H.bas 10 (by kernel_rfl))
        · refine StepT.q _ (by rfl) (by rfl) fun ρ w' H => ?_
          exact OpTo.move _ rfl (H.bas 15 (by kernel_rfl))
        · refine StepT.q _ (by rfl) (by rfl) fun ρ w' H => ?_
          exact OpTo.move _ rfl (H.bas 17 (by kernel_rfl))
        · refine StepT.q _ (by rfl) (by rfl) fun ρ w' H => ?_
          obtain ⟨v20, e20, p20⟩ := H.dep 20 162 (by kernel_rfl)
          obtain rfl : v20 = .int .i64 (m : Int) := p20
          exact op_subN (c := 2) _ _ rfl e20 (H.con _) (by omega) (by omega)
        · refine StepT.q _ (by rfl) (by rfl) fun ρ w' H => ?_
          obtain ⟨v19, e19, p19⟩ := H.dep 19 161 (by kernel_rfl)
          obtain rfl : v19 = .slice (some ⟨g, 0, none⟩) k cap := p19
          obtain ⟨v21, e21, p21⟩ := H.dep 21 163 (by kernel_rfl)
          obtain rfl : v21 = .int .i64 ((m - 2 : Nat) : Int) := p21
          exact op_idxW _ _ rfl e19 e21 (by omega)
        · refine StepT.q _ (by rfl) (by rfl) fun ρ w' H => ?_
          obtain ⟨v22, e22, p22⟩ := H.dep 22 164 (by kernel_rfl)
          obtain rfl : v22 = .pointer (some ⟨g, (m - 2) * 2, none⟩) := p22
          exact op_eltX _ rfl e22 (HE.next H.bel) (by omega)
        · refine StepT.q _ (by rfl) (by rfl) fun ρ w' H => ?_
          exact OpTo.move _ rfl (H.bas 15 (by kernel_rfl))
        · refine StepT.q _ (by rfl) (by rfl) fun ρ w' H => ?_
          exact OpTo.move _ rfl (H.bas 17 (by kernel_rfl))
        · refine StepT.q _ (by rfl) (by rfl) fun ρ w' H => ?_
          obtain ⟨v25, e25, p25⟩ := H.dep 25 167 (by kernel_rfl)
          obtain rfl : v25 = .int .i64 (m : Int) := p25
          exact op_addN (c := 1) _ _ rfl e25 (H.con _) (by omega)
        · refine StepT.q _ (by rfl) (by rfl) fun ρ w' H => ?_
          obtain ⟨v24, e24, p24⟩ := H.dep 24 166 (by kernel_rfl)
          obtain rfl : v24 = .slice (some ⟨g, 0, none⟩) k cap := p24
          obtain ⟨v26, e26, p26⟩ := H.dep 26 168 (by kernel_rfl)
          obtain rfl : v26 = .int .i64 ((m + 1 : Nat) : Int) := p26
          exact op_idxW _ _ rfl e24 e26 (by omega)
        · refine StepT.q _ (by rfl) (by rfl) fun ρ w' H => ?_
          obtain ⟨v27, e27, p27⟩ := H.dep 27 169 (by kernel_rfl)
          obtain rfl : v27 = .pointer (some ⟨g, (m + 1) * 2, none⟩) := p27
          exact op_eltX _ rfl e27 (HE.next H.bel) (by omega)
        · refine StepT.q _ (by rfl) (by rfl) fun ρ w' H => ?_
          exact OpTo.move _ rfl (H.bas 15 (by kernel_rfl))
        · refine StepT.q _ (by rfl) (by rfl) fun ρ w' H => ?_
          exact OpTo.move _ rfl (H.bas 17 (by kernel_rfl))
        · refine StepT.q _ (by rfl) (by rfl) fun ρ w' H => ?_
          obtain ⟨v30, e30, p30⟩ := H.dep 30 172 (by kernel_rfl)
          obtain rfl : v30 = .int .i64 (m : Int) := p30
          exact op_addN (c := 1) _ _ rfl e30 (H.con _) (by omega)
        · refine StepT.q _ (by rfl) (by rfl) fun ρ w' H => ?_
          obtain ⟨v29, e29, p29⟩ := H.dep 29 171 (by kernel_rfl)
          obtain rfl : v29 = .slice (some ⟨g, 0, none⟩) k cap := p29
          obtain ⟨v31, e31, p31⟩ := H.dep 31 173 (by kernel_rfl)
          obtain rfl : v31 = .int .i64 ((m + 1 : Nat) : Int) := p31
          exact op_idxW _ _ rfl e29 e31 (by omega)
        · refine StepT.q _ (by rfl) (by rfl) fun ρ w' H => ?_
          obtain ⟨v32, e32, p32⟩ := H.dep 32 174 (by kernel_rfl)
          obtain rfl : v32 = .pointer (some ⟨g, (m + 1) * 2, none⟩) := p32
          exact op_eltX _ rfl e32 (HE.next H.bel) (by omega)
        · refine StepT.q _ (by rfl) (by rfl) fun ρ w' H => ?_
          obtain ⟨v23, e23, p23⟩ := H.dep 23 165 (by kernel_rfl)
          have p23 : (Wh b (eat xs (m - 2))) v23 w' := p23
          obtain ⟨v28, e28, p28⟩ := H.dep 28 170 (by kernel_rfl)
          have p28 : (Wh b (eat xs (m + 1))) v28 w' := p28
          obtain ⟨v33, e33, p33⟩ := H.dep 33 175 (by kernel_rfl)
          have p33 : (Wh b (eat xs (m + 1))) v33 w' := p33
          exact op_bs3 _ _ _ _ _ _ rfl (by rw [e23]; exact p23) (by rw [e28]; exact p28) (by rw [e33]; exact p33)
        · refine StepT.q _ (by rfl) (by rfl) fun ρ w' H => ?_
          obtain ⟨v18, e18, p18⟩ := H.dep 18 160 (by kernel_rfl)
          obtain rfl : v18 = .func (.func 78) #[] #[] := p18
          obtain ⟨v34, e34, p34⟩ := H.dep 34 176 (by kernel_rfl)
          have p34 : (IsWs [(eat xs (m - 2)), (eat xs (m + 1)), (eat xs (m + 1))]) v34 w' := p34
          exact OpTo.call 78 #[(Value.int IntKind.i64 (-1)), v34] _ _ _ rfl (e18) (enters_of Tryz.func78 (by kernel_rfl) rfl) (by simp [e34, H.con]) ((c_timesS 3000 (-1) [eat xs (m - 2), eat xs (m + 1), eat xs (m + 1)] v34 (by omega) (by simp) (by simp) (by simp) (List.forall_mem_cons.2 ⟨zE.out _, List.forall_mem_cons.2 ⟨zE.out _, List.forall_mem_cons.2 ⟨zE.out _, fun _ h => (by cases h)⟩⟩⟩) w' p34).mono fun e w2 ⟨v, h1, h2, h3⟩ => ⟨v, h1, h3, h2.le (Nat.le_trans hbW H.bel.size)⟩)
        · refine StepT.q _ (by rfl) (by rfl) fun ρ w' H => ?_
          obtain ⟨v17, e17, p17⟩ := H.dep 17 159 (by kernel_rfl)
          have p17 : (Wh b ((1) * pr [eat xs (m + 2), eat xs (m - 1), eat xs (m - 1)])) v17 w' := p17
          obtain ⟨v35, e35, p35⟩ := H.dep 35 177 (by kernel_rfl)
          have p35 : (Wh b ((-1) * pr [eat xs (m - 2), eat xs (m + 1), eat xs (m + 1)])) v35 w' := p35
          exact op_bs2 _ _ _ _ rfl (by rw [e17]; exact p17) (by rw [e35]; exact p35)
        · refine StepT.q _ (by rfl) (by rfl) fun ρ w' H => ?_
          obtain ⟨v36, e36, p36⟩ := H.dep 36 178 (by kernel_rfl)
          have p36 : (IsWs [((1) * pr [eat xs (m + 2), eat xs (m - 1), eat xs (m - 1)]), ((-1) * pr [eat xs (m - 2), eat xs (m + 1), eat xs (m + 1)])]) v36 w' := p36
          exact OpTo.call 80 #[v36] _ _ _ rfl (H.fn 80) (enters_of Tryz.func80 (by kernel_rfl) rfl) (by simp [e36]) ((hS.out _ w' p36).mono fun e w2 ⟨v, h1, h2, h3⟩ => ⟨v, h1, h3, h2.le (Nat.le_trans hbW H.bel.size)⟩)
        · refine StepT.a _ (by rfl) fun ρ w' H => ?_
          exact OpTo.alloc rfl (fun w => by simp [go_sem]) H.bel.size
        intro vs Wt hBt hDt
        have hV37 : (Wh b (I)) (vs 37) Wt := hDt.1 37 (by omega)
        have hV38 : (PA wr.heap.size #[.bool false, .slice none 0 0] 37) (vs 38) Wt := hDt.1 38 (by omega)
        obtain ⟨r18, ea18, hr18, kr18⟩ := hV38
        clear hDt
        simp only [mergeS, Nat.reduceBEq, cond_true, cond_false, Nat.reduceAdd, List.drop_succ_cons, List.drop_zero, ea18]
        obtain ⟨lv18, ev18, rv18, cv18⟩ := hV37.cell
        obtain ⟨sl18, sc18, rfl, _⟩ := id rv18.1
        simp only [ev18]
        have x0 : Wt.cell? ⟨r18, 0, none⟩ = some (.bool false) := kr18.cell 0
        have x1 : Wt.cell? ⟨r18, 1, none⟩ = some (.slice none 0 0) := kr18.cell 1
        have x2 := kr18.frozen 0
        have x3 := kr18.frozen 1
        have x4 := kr18.lt
        have kI : BlkW b r18 (I) ((Wt.setCell ⟨r18, 0, none⟩ (.bool (decide (I < 0)))).setCell ⟨r18, 1, none⟩ (.slice sl18 (dg (I).natAbs).length sc18)) := BlkW.put kr18 rfl rv18 cv18
        have hBf : Below wr.heap.size wr ((Wt.setCell ⟨r18, 0, none⟩ (.bool (decide (I < 0)))).setCell ⟨r18, 1, none⟩ (.slice sl18 (dg (I).natAbs).length sc18)) := (hBt.setCell hr18 _).setCell hr18 _
        replace kR := kR.next hBf
        replace kG := kG.next hBf
        replace hD := hD.next hBf
        replace HE := HE.next hBf
        replace hbdW := Nat.le_trans hbdW hBf.size
        replace hb0 : Below b w _ := below_step hBf hbW hb0
        replace hbW := Nat.le_trans hbW hBf.size
        clear hV37 hBt kr18 ev18 rv18 cv18
        go_upto_region 15 with (fail)
        generalize (World.setCell (World.setCell _ _ _) _ _) = W14 at *
        clear x0 x1 x2 x3 x4 hBf hr18
        refine wp_region_tab 10 [] [(0, 180), (1, 181), (2, 182), (3, 183), (4, 184), (5, 185), (6, 186), (7, 187), (8, 188), (9, 189)] [IsV (.slice (some ⟨g, 0, none⟩) k cap), IsV (.func (.func 78) #[] #[]), IsV (.slice (some ⟨g, 0, none⟩) k cap), IsV (.int .i64 (m : Int)), IsV (.pointer (some ⟨g, (m) * 2, none⟩)), Wh b (eat xs m), Wh b I, IsWs [(eat xs m), I], Wh b (dwN G xs k), (fun v w => OwnsW w W14.heap.size b v [dwN G xs k])] (by kernel_rfl) (by kernel_rfl) (by kernel_rfl) trivial ⟨IsV.closed _, IsV.closed _, IsV.closed _, IsV.closed _, IsV.closed _, Wh.closed _ _, Wh.closed _ _, IsWs.closed _, Wh.closed _ _, fun v => OwnsW.closed W14.heap.size b v _, trivial⟩ ⟨?_, ?_, ?_, ?_, ?_, ?_, ?_, ?_, ?_, ?_, trivial⟩ ?_
        · refine StepT.q _ (by rfl) (by rfl) fun ρ w' H => ?_
          exact OpTo.move _ rfl (H.bas 15 (by kernel_rfl))
        · refine StepT.q _ (by rfl) (by rfl) fun ρ w' H => ?_
          exact OpTo.move _ rfl (H.bas 10 (by kernel_rfl))
        · refine StepT.q _ (by rfl) (by rfl) fun ρ w' H => ?_
          exact OpTo.move _ rfl (H.bas 15 (by kernel_rfl))
        · refine StepT.q _ (by rfl) (by rfl) fun ρ w' H => ?_
          exact OpTo.move _ rfl (H.bas 17 (by kernel_rfl))
        · refine StepT.q _ (by rfl) (by rfl) fun ρ w' H => ?_
          obtain ⟨v2, e2, p2⟩ := H.dep 2 182 (by kernel_rfl)
          obtain rfl : v2 = .slice (some ⟨g, 0, none⟩) k cap := p2
          obtain ⟨v3, e3, p3⟩ := H.dep 3 183 (by kernel_rfl)
          obtain rfl : v3 = .int .i64 (m : Int) := p3
          exact op_idxW _ _ rfl e2 e3 (by omega)
        · refine StepT.q _ (by rfl) (by rfl) fun ρ w' H => ?_
          obtain ⟨v4, e4, p4⟩ := H.dep 4 184 (by kernel_rfl)
          obtain rfl : v4 = .pointer (some ⟨g, (m) * 2, none⟩) := p4
          exact op_eltX _ rfl e4 (HE.next H.bel) (by omega)
        · refine StepT.q _ (by rfl) (by rfl) fun ρ w' H => ?_
          have hx : ρ (.tmp 18) = .pointer (some ⟨r18, 0, none⟩) := H.bas 18 (by kernel_rfl); exact op_ldW _ rfl hx (kI.next H.bel)
        · refine StepT.q _ (by rfl) (by rfl) fun ρ w' H => ?_
          obtain ⟨v5, e5, p5⟩ := H.dep 5 185 (by kernel_rfl)
          have p5 : (Wh b (eat xs m)) v5 w' := p5
          obtain ⟨v6, e6, p6⟩ := H.dep 6 186 (by kernel_rfl)
          have p6 : (Wh b I) v6 w' := p6
          exact op_bs2 _ _ _ _ rfl (by rw [e5]; exact p5) (by rw [e6]; exact p6)
        · refine StepT.q _ (by rfl) (by rfl) fun ρ w' H => ?_
          obtain ⟨v1, e1, p1⟩ := H.dep 1 181 (by kernel_rfl)
          obtain rfl : v1 = .func (.func 78) #[] #[] := p1
          obtain ⟨v7, e7, p7⟩ := H.dep 7 187 (by kernel_rfl)
          have p7 : (IsWs [(eat xs m), I]) v7 w' := p7
          exact OpTo.call 78 #[(Value.int IntKind.i64 1), v7] _ _ _ rfl (e1) (enters_of Tryz.func78 (by kernel_rfl) rfl) (by simp [e7, H.con]) ((hN2.out ▸ c_timesS 9100 1 [eat xs m, I] v7 (by omega) (by simp) (by simp) (by simp) (List.forall_mem_cons.2 ⟨(zE.out _).mono (by omega), List.forall_mem_cons.2 ⟨zI, fun _ h => (by cases h)⟩⟩) w' p7).mono fun e w2 ⟨v, h1, h2, h3⟩ => ⟨v, h1, h3, h2.le (Nat.le_trans hbW H.bel.size)⟩)
        · refine StepT.q _ (by rfl) (by rfl) fun ρ w' H => ?_
          obtain ⟨v8, e8, p8⟩ := H.dep 8 188 (by kernel_rfl)
          have p8 : (Wh b (dwN G xs k)) v8 w' := p8
          exact op_bo1 _ _ H.bel.size rfl (by rw [e8]; exact p8)
        intro vs Wt hBt hDt
        have hv0 : vs 0 = .slice (some ⟨g, 0, none⟩) k cap := hDt.1 0 (by omega)
        have hV9 : ((fun v w => OwnsW w W14.heap.size b v [dwN G xs k])) (vs 9) Wt := hDt.1 9 (by omega)
        clear hDt
        simp only [mergeS, Nat.reduceBEq, cond_true, cond_false, Nat.reduceAdd, List.drop_succ_cons, List.drop_zero, hv0]
        clear hv0
        have hVB : OwnsW Wt W14.heap.size b (vs 9) [dwN G xs k] := hV9
        replace kR := kR.next hBt
        replace kG := kG.next hBt
        replace hD := hD.next hBt
        replace hb0 : Below b w _ := below_step hBt hbW hb0
        replace hbW := Nat.le_trans hbW hBt.size
        replace hbdW := Nat.le_trans hbdW hBt.size
        have hgd : bd ≤ g := hgb.out
        go_wp2_with (at_builtin; refine wpList_appW rfl _ _ rfl bd b _ (.slice (some ⟨g, 0, none⟩) k cap) _ xs (dwN G xs k) rfl rfl hD hVB hbdW (by rw [HK.out]; omega) ?_; intro v9 W9 hD9 hO9 hF9)
        rw [← HX.out] at hD9
        have hl9 : (dwL A B x (k + 1 - 5)).length = k + 1 := by rw [dwL_len]; omega
        obtain ⟨g9, cap9, rfl, _, _⟩ := hD9.addr (by omega)
        rw [hl9] at hD9 ⊢
        have hR9 := kR.over hO9 (by simp [Value.ownBlock]; omega)
        have hG9 := hF9 _ _ kG (by simp [Value.ownBlock]; omega)
        have hb9 : Below b w W9 := hO9.belowGe hb0 hbW (by simp [Value.ownBlock]; omega)
        have hs9 := Nat.le_trans hbdW hO9.size
        clear hl9 hO9 hF9 hD kR kG
        go_wp2
        go_roundw
        case rel => exact ⟨k + 1, g9, cap9, by go_num, rfl, by omega, .inl (by omega), hD9, hG9, hR9, hs9, hb9⟩
        case measure => simp [intOf]; omega
      · have hkI : (k : Int) % 2 = 1 := by omega
        have hgw := HE.1
        have hbd0 : bd ≤ wr.heap.size := hbdW
        obtain ⟨P, hP⟩ : ∃ P, P = (1) * pr [eat xs (m + 2), eat xs m, eat xs m, eat xs m] := ⟨_, rfl⟩
        obtain ⟨R, hR⟩ : ∃ R, R = (-1) * pr [eat xs (m - 1), eat xs (m + 1), eat xs (m + 1), eat xs (m + 1)] := ⟨_, rfl⟩
        have zP : Sz 12100 P := by
          rw [hP]
          exact ((Sz.of1 (by omega) (by omega)).mul (pr_sz (n := 3000) _ (by simp [zE.out]))).mono (by simp)
        have zR : Sz 12100 R := by
          rw [hR]
          exact ((Sz.of1 (by omega) (by omega)).mul (pr_sz (n := 3000) _ (by simp [zE.out]))).mono (by simp)
        have HP := Lib.hid hP
        have HR := Lib.hid hR
        clear hP hR
        have hP2 : Hid (∀ v w, RdWs w v [eat xs (m + 2), eat xs m, eat xs m, eat xs m] → Calls Tryz.prog 78 #[.int .i64 1, v] w (WhP P w)) := fun v w h => HP.out ▸ c_timesW 1 _ v (by omega) (by simp) (by simp) (by simp [zE.out]) w h
        have hR2 : Hid (∀ v w, RdWs w v [eat xs (m - 1), eat xs (m + 1), eat xs (m + 1), eat xs (m + 1)] → Calls Tryz.prog 78 #[.int .i64 (-1), v] w (WhP R w)) := fun v w h => HR.out ▸ c_timesW (-1) _ v (by omega) (by simp) (by simp) (by simp [zE.out]) w h
        go_upto_region 16 with (fail)
        refine wp_region_tab 45 [43, 44] [(43, 19), (44, 20), (0, 191), (1, 192), (2, 193), (3, 194), (4, 195), (5, 196), (6, 197), (7, 198), (8, 199), (9, 200), (10, 201), (11, 202), (12, 203), (13, 204), (14, 205), (15, 206), (16, 207), (17, 208), (18, 209), (19, 210), (20, 211), (21, 212), (22, 213), (23, 214), (24, 215), (25, 216), (26, 217), (27, 218), (28, 219), (29, 220), (30, 221), (31, 222), (32, 223), (33, 224), (34, 225), (35, 226), (36, 227), (37, 228), (38, 229), (39, 230), (40, 231), (41, 232), (42, 233)] [IsV (.func (.func 78) #[] #[]), IsV (.slice (some ⟨g, 0, none⟩) k cap), IsV (.int .i64 (m : Int)), IsV (.int .i64 ((m + 2 : Nat) : Int)), IsV (.pointer (some ⟨g, (m + 2) * 2, none⟩)), Wh b (eat xs (m + 2)), IsV (.slice (some ⟨g, 0, none⟩) k cap), IsV (.int .i64 (m : Int)), IsV (.pointer (some ⟨g, (m) * 2, none⟩)), Wh b (eat xs m), IsV (.slice (some ⟨g, 0, none⟩) k cap), IsV (.int .i64 (m : Int)), IsV (.pointer (some ⟨g, (m) * 2, none⟩)), Wh b (eat xs m), IsV (.slice (some ⟨g, 0, none⟩) k cap), IsV (.int .i64 (m : Int)), IsV (.pointer (some ⟨g, (m) * 2, none⟩)), Wh b (eat xs m), IsWs [(eat xs (m + 2)), (eat xs m), (eat xs m), (eat xs m)], Wh b P, IsV (.func (.func 78) #[] #[]), IsV (.slice (some ⟨g, 0, none⟩) k cap), IsV (.int .i64 (m : Int)), IsV (.int .i64 ((m - 1 : Nat) : Int)), IsV (.pointer (some ⟨g, (m - 1) * 2, none⟩)), Wh b (eat xs (m - 1)), IsV (.slice (some ⟨g, 0, none⟩) k cap), IsV (.int .i64 (m : Int)), IsV (.int .i64 ((m + 1 : Nat) : Int)), IsV (.pointer (some ⟨g, (m + 1) * 2, none⟩)), Wh b (eat xs (m + 1)), IsV (.slice (some ⟨g, 0, none⟩) k cap), IsV (.int .i64 (m : Int)), IsV (.int .i64 ((m + 1 : Nat) : Int)), IsV (.pointer (some ⟨g, (m + 1) * 2, none⟩)), Wh b (eat xs (m + 1)), IsV (.slice (some ⟨g, 0, none⟩) k cap), IsV (.int .i64 (m : Int)), IsV (.int .i64 ((m + 1 : Nat) : Int)), IsV (.pointer (some ⟨g, (m + 1) * 2, none⟩)), Wh b (eat xs (m + 1)), IsWs [(eat xs (m - 1)), (eat xs (m + 1)), (eat xs (m + 1)), (eat xs (m + 1))], Wh b R, PA wr.heap.size #[.bool false, .slice none 0 0] 37, PA wr.heap.size #[.bool false, .slice none 0 0] 37] (by kernel_rfl) (by kernel_rfl) (by kernel_rfl) ⟨⟨_, _, _, rfl⟩, ⟨_, _, _, rfl⟩, trivial⟩ ⟨IsV.closed _, IsV.closed _, IsV.closed _, IsV.closed _, IsV.closed _, Wh.closed _ _, IsV.closed _, IsV.closed _, IsV.closed _, Wh.closed _ _, IsV.closed _, IsV.closed _, IsV.closed _, Wh.closed _ _, IsV.closed _, IsV.closed _, IsV.closed _, Wh.closed _ _, IsWs.closed _, Wh.closed _ _, IsV.closed _, IsV.closed _, IsV.closed _, IsV.closed _, IsV.closed _, Wh.closed _ _, IsV.closed _, IsV.closed _, IsV.closed _, IsV.closed _, Wh.closed _ _, IsV.closed _, IsV.closed _, IsV.closed _, IsV.closed _, Wh.closed _ _, IsV.closed _, IsV.closed _, IsV.closed _, IsV.closed _, Wh.closed _ _, IsWs.closed _, Wh.closed _ _, PA.closed _ _ _, PA.closed _ _ _, trivial⟩ ⟨?_, ?_, ?_, ?_, ?_, ?_, ?_, ?_, ?_, ?_, ?_, ?_, ?_, ?_, ?_, ?_, ?_, ?_, ?_, ?_, ?_, ?_, ?_, ?_, ?_, ?_, ?_, ?_, ?_, ?_, ?_, ?_, ?_, ?_, ?_, ?_, ?_, ?_, ?_, ?_, ?_, ?_, ?_, ?_, ?_, trivial⟩ ?_
        · refine StepT.q _ (by rfl) (by rfl) fun ρ w' H => ?_
          exact OpTo.move _ rfl (H.bas 10 (by kernel_rfl))
        · refine StepT.q _ (by rfl) (by rfl) fun ρ w' H => ?_
          exact OpTo.move _ rfl (H.bas 15 (by kernel_rfl))
        · refine StepT.q _ (by rfl) (by rfl) fun ρ w' H => ?_
          exact OpTo.move _ rfl (H.bas 17 (by kernel_rfl))
        · refine StepT.q _ (by rfl) (by rfl) fun ρ w' H => ?_
          obtain ⟨v2, e2, p2⟩ := H.dep 2 193 (by kernel_rfl)
          obtain rfl : v2 = .int .i64 (m : Int) := p2
          exact op_addN (c := 2) _ _ rfl e2 (H.con _) (by omega)
        · refine StepT.q _ (by rfl) (by rfl) fun ρ w' H => ?_
          obtain ⟨v1, e1, p1⟩ := H.dep 1 192 (by kernel_rfl)
          obtain rfl : v1 = .slice (some ⟨g, 0, none⟩) k cap := p1
          obtain ⟨v3, e3, p3⟩ := H.dep 3 194 (by kernel_rfl)
          obtain rfl : v3 = .int .i64 ((m + 2 : Nat) : Int) := p3
          exact op_idxW _ _ rfl e1 e3 (by omega)
        · refine StepT.q _ (by rfl) (by rfl) fun ρ w' H => ?_
          obtain ⟨v4, e4, p4⟩ := H.dep 4 195 (by kernel_rfl)
          obtain rfl : v4 = .pointer (some ⟨g, (m + 2) * 2, none⟩) := p4
          exact op_eltX _ rfl e4 (HE.next H.bel) (by omega)
        · refine StepT.q _ (by rfl) (by rfl) fun ρ w' H => ?_
          exact OpTo.move _ rfl (H.bas 15 (by kernel_rfl))
        · refine StepT.q _ (by rfl) (by rfl) fun ρ w' H => ?_
          exact OpTo.move _ rfl (H.bas 17 (by kernel_rfl))
        · refine StepT.q _ (by rfl) (by rfl) fun ρ w' H => ?_
          obtain ⟨v6, e6, p6⟩ := H.dep 6 197 (by kernel_rfl)
          obtain rfl : v6 = .slice (some ⟨g, 0, none⟩) k cap := p6
          obtain ⟨v7, e7, p7⟩ := H.dep 7 198 (by kernel_rfl)
          obtain rfl : v7 = .int .i64 (m : Int) := p7
          exact op_idxW _ _ rfl e6 e7 (by omega)
        · refine StepT.q _ (by rfl) (by rfl) fun ρ w' H => ?_
          obtain ⟨v8, e8, p8⟩ := H.dep 8 199 (by kernel_rfl)
          obtain rfl : v8 = .pointer (some ⟨g, (m) * 2, none⟩) := p8
          exact op_eltX _ rfl e8 (HE.next H.bel) (by omega)
        · refine StepT.q _ (by rfl) (by rfl) fun ρ w' H => ?_
          exact OpTo.move _ rfl (H.bas 15 (by kernel_rfl))
        · refine StepT.q _ (by rfl) (by rfl) fun ρ w' H => ?_
          exact OpTo.move _ rfl (H.bas 17 (by kernel_rfl))
        · refine StepT.q _ (by rfl) (by rfl) fun ρ w' H => ?_
          obtain ⟨v10, e10, p10⟩ := H.dep 10 201 (by kernel_rfl)
          obtain rfl : v10 = .slice (some ⟨g, 0, none⟩) k cap := p10
          obtain ⟨v11, e11, p11⟩ := H.dep 11 202 (by kernel_rfl)
          obtain rfl : v11 = .int .i64 (m : Int) := p11
          exact op_idxW _ _ rfl e10 e11 (by omega)
        · refine StepT.q _ (by rfl) (by rfl) fun ρ w' H => ?_
          obtain ⟨v12, e12, p12⟩ := H.dep 12 203 (by kernel_rfl)
          obtain rfl : v12 = .pointer (some ⟨g, (m) * 2, none⟩) := p12
          exact op_eltX _ rfl e12 (HE.next H.bel) (by omega)
        · refine StepT.q _ (by rfl) (by rfl) fun ρ w' H => ?_
          exact OpTo.move _ rfl (H.bas 15 (by kernel_rfl))
        · refine StepT.q _ (by rfl) (by rfl) fun ρ w' H => ?_
          exact OpTo.move _ rfl (H.bas 17 (by kernel_rfl))
        · refine StepT.q _ (by rfl) (by rfl) fun ρ w' H => ?_
          obtain ⟨v14, e14, p14⟩ := H.dep 14 205 (by kernel_rfl)
          obtain rfl : v14 = .slice (some ⟨g, 0, none⟩) k cap := p14
          obtain ⟨v15, e15, p15⟩ := H.dep 15 206 (by kernel_rfl)
          obtain rfl : v15 = .int .i64 (m : Int) := p15
          exact op_idxW _ _ rfl e14 e15 (by omega)
        · refine StepT.q _ (by rfl) (by rfl) fun ρ w' H => ?_
          obtain ⟨v16, e16, p16⟩ := H.dep 16 207 (by kernel_rfl)
          obtain rfl : v16 = .pointer (some ⟨g, (m) * 2, none⟩) := p16
          exact op_eltX _ rfl e16 (HE.next H.bel) (by omega)
        · refine StepT.q _ (by rfl) (by rfl) fun ρ w' H => ?_
          obtain ⟨v5, e5, p5⟩ := H.dep 5 196 (by kernel_rfl)
          have p5 : (Wh b (eat xs (m + 2))) v5 w' := p5
          obtain ⟨v9, e9, p9⟩ := H.dep 9 200 (by kernel_rfl)
          have p9 : (Wh b (eat xs m)) v9 w' := p9
          obtain ⟨v13, e13, p13⟩ := H.dep 13 204 (by kernel_rfl)
          have p13 : (Wh b (eat xs m)) v13 w' := p13
          obtain ⟨v17, e17, p17⟩ := H.dep 17 208 (by kernel_rfl)
          have p17 : (Wh b (eat xs m)) v17 w' := p17
          exact op_bs4 _ _ _ _ _ _ _ _ rfl (by rw [e5]; exact p5) (by rw [e9]; exact p9) (by rw [e13]; exact p13) (by rw [e17]; exact p17)
        · refine StepT.q _ (by rfl) (by rfl) fun ρ w' H => ?_
          obtain ⟨v0, e0, p0⟩ := H.dep 0 191 (by kernel_rfl)
          obtain rfl : v0 = .func (.func 78) #[] #[] := p0
          obtain ⟨v18, e18, p18⟩ := H.dep 18 209 (by kernel_rfl)
          have p18 : (IsWs [(eat xs (m + 2)), (eat xs m), (eat xs m), (eat xs m)]) v18 w' := p18
          exact OpTo.call 78 #[(Value.int IntKind.i64 1), v18] _ _ _ rfl (e0) (enters_of Tryz.func78 (by kernel_rfl) rfl) (by simp [e18, H.con]) ((hP2.out _ w' p18).mono fun e w2 ⟨v, h1, h2, h3⟩ => ⟨v, h1, h3, h2.le (Nat.le_trans hbW H.bel.size)⟩)
        · refine StepT.q _ (by rfl) (by rfl) fun ρ w' H => ?_
          exact OpTo.move _ rfl (H.bas 10 (by kernel_rfl))
        · refine StepT.q _ (by rfl) (by rfl) fun ρ w' H => ?_
          exact OpTo.move _ rfl (H.bas 15 (by kernel_rfl))
        · refine StepT.q _ (by rfl) (by rfl) fun ρ w' H => ?_
          exact OpTo.move _ rfl (H.bas 17 (by kernel_rfl))
        · refine StepT.q _ (by rfl) (by rfl) fun ρ w' H => ?_
          obtain ⟨v22, e22, p22⟩ := H.dep 22 213 (by kernel_rfl)
          obtain rfl : v22 = .int .i64 (m : Int) := p22
          exact op_subN (c := 1) _ _ rfl e22 (H.con _) (by omega) (by omega)
        · refine StepT.q _ (by rfl) (by rfl) fun ρ w' H => ?_
          obtain ⟨v21, e21, p21⟩ := H.dep 21 212 (by kernel_rfl)
          obtain rfl : v21 = .slice (some ⟨g, 0, none⟩) k cap := p21
          obtain ⟨v23, e23, p23⟩ := H.dep 23 214 (by kernel_rfl)
          obtain rfl : v23 = .int .i64 ((m - 1 : Nat) : Int) := p23
          exact op_idxW _ _ rfl e21 e23 (by omega)
        · refine StepT.q _ (by rfl) (by rfl) fun ρ w' H => ?_
          obtain ⟨v24, e24, p24⟩ := H.dep 24 215 (by kernel_rfl)
          obtain rfl : v24 = .pointer (some ⟨g, (m - 1) * 2, none⟩) := p24
          exact op_eltX _ rfl e24 (HE.next H.bel) (by omega)
        · refine StepT.q _ (by rfl) (by rfl) fun ρ w' H => ?_
          exact OpTo.move _ rfl (H.bas 15 (by kernel_rfl))
        · refine StepT.q _ (by rfl) (by rfl) fun ρ w' H => ?_
          exact OpTo.move _ rfl (H.bas 17 (by kernel_rfl))
        · refine StepT.q _ (by rfl) (by rfl) fun ρ w' H => ?_
          obtain ⟨v27, e27, p27⟩ := H.dep 27 218 (by kernel_rfl)
          obtain rfl : v27 = .int .i64 (m : Int) := p27
          exact op_addN (c := 1) _ _ rfl e27 (H.con _) (by omega)
        · refine StepT.q _ (by rfl) (by rfl) fun ρ w' H => ?_
          obtain ⟨v26, e26, p26⟩ := H.dep 26 217 (by kernel_rfl)
          obtain rfl : v26 = .slice (some ⟨g, 0, none⟩) k cap := p26
          obtain ⟨v28, e28, p28⟩ := H.dep 28 219 (by kernel_rfl)
          obtain rfl : v28 = .int .i64 ((m + 1 : Nat) : Int) := p28
          exact op_idxW _ _ rfl e26 e28 (by omega)
        · refine StepT.q _ (by rfl) (by rfl) fun ρ w' H => ?_
          obtain ⟨v29, e29, p29⟩ := H.dep 29 220 (by kernel_rfl)
          obtain rfl : v29 = .pointer (some ⟨g, (m + 1) * 2, none⟩) := p29
          exact op_eltX _ rfl e29 (HE.next H.bel) (by omega)
        · refine StepT.q _ (by rfl) (by rfl) fun ρ w' H => ?_
          exact OpTo.move _ rfl (H.bas 15 (by kernel_rfl))
        · refine StepT.q _ (by rfl) (by rfl) fun ρ w' H => ?_
          exact OpTo.move _ rfl (H.bas 17 (by kernel_rfl))
        · refine StepT.q _ (by rfl) (by rfl) fun ρ w' H => ?_
          obtain ⟨v32, e32, p32⟩ := H.dep 32 223 (by kernel_rfl)
          obtain rfl : v32 = .int .i64 (m : Int) := p32
          exact op_addN (c := 1) _ _ rfl e32 (H.con _) (by omega)
        · refine StepT.q _ (by rfl) (by rfl) fun ρ w' H => ?_
          obtain ⟨v31, e31, p31⟩ := H.dep 31 222 (by kernel_rfl)
          obtain rfl : v31 = .slice (some ⟨g, 0, none⟩) k cap := p31
          obtain ⟨v33, e33, p33⟩ := H.dep 33 224 (by kernel_rfl)
          obtain rfl : v33 = .int .i64 ((m + 1 : Nat) : Int) := p33
          exact op_idxW _ _ rfl e31 e33 (by omega)
        · refine StepT.q _ (by rfl) (by rfl) fun ρ w' H => ?_
          obtain ⟨v34, e34, p34⟩ := H.dep 34 225 (by kernel_rfl)
          obtain rfl : v34 = .pointer (some ⟨g, (m + 1) * 2, none⟩) := p34
          exact op_eltX _ rfl e34 (HE.next H.bel) (by omega)
        · refine StepT.q _ (by rfl) (by rfl) fun ρ w' H => ?_
          exact OpTo.move _ rfl (H.bas 15 (by kernel_rfl))
        · refine StepT.q _ (by rfl) (by rfl) fun ρ w' H => ?_
          exact OpTo.move _ rfl (H.bas 17 (by kernel_rfl))
        · refine StepT.q _ (by rfl) (by rfl) fun ρ w' H => ?_
          obtain ⟨v37, e37, p37⟩ := H.dep 37 228 (by kernel_rfl)
          obtain rfl : v37 = .int .i64 (m : Int) := p37
          exact op_addN (c := 1) _ _ rfl e37 (H.con _) (by omega)
        · refine StepT.q _ (by rfl) (by rfl) fun ρ w' H => ?_
          obtain ⟨v36, e36, p36⟩ := H.dep 36 227 (by kernel_rfl)
          obtain rfl : v36 = .slice (some ⟨g, 0, none⟩) k cap := p36
          obtain ⟨v38, e38, p38⟩ := H.dep 38 229 (by kernel_rfl)
          obtain rfl : v38 = .int .i64 ((m + 1 : Nat) : Int) := p38
          exact op_idxW _ _ rfl e36 e38 (by omega)
        · refine StepT.q _ (by rfl) (by rfl) fun ρ w' H => ?_
          obtain ⟨v39, e39, p39⟩ := H.dep 39 230 (by kernel_rfl)
          obtain rfl : v39 = .pointer (some ⟨g, (m + 1) * 2, none⟩) := p39
          exact op_eltX _ rfl e39 (HE.next H.bel) (by omega)
        · refine StepT.q _ (by rfl) (by rfl) fun ρ w' H => ?_
          obtain ⟨v25, e25, p25⟩ := H.dep 25 216 (by kernel_rfl)
          have p25 : (Wh b (eat xs (m - 1))) v25 w' := p25
          obtain ⟨v30, e30, p30⟩ := H.dep 30 221 (by kernel_rfl)
          have p30 : (Wh b (eat xs (m + 1))) v30 w' := p30
          obtain ⟨v35, e35, p35⟩ := H.dep 35 226 (by kernel_rfl)
          have p35 : (Wh b (eat xs (m + 1))) v35 w' := p35
          obtain ⟨v40, e40, p40⟩ := H.dep 40 231 (by kernel_rfl)
          have p40 : (Wh b (eat xs (m + 1))) v40 w' := p40
          exact op_bs4 _ _ _ _ _ _ _ _ rfl (by rw [e25]; exact p25) (by rw [e30]; exact p30) (by rw [e35]; exact p35) (by rw [e40]; exact p40)
        · refine StepT.q _ (by rfl) (by rfl) fun ρ w' H => ?_
          obtain ⟨v20, e20, p20⟩ := H.dep 20 211 (by kernel_rfl)
          obtain rfl : v20 = .func (.func 78) #[] #[] := p20
          obtain ⟨v41, e41, p41⟩ := H.dep 41 232 (by kernel_rfl)
          have p41 : (IsWs [(eat xs (m - 1)), (eat xs (m + 1)), (eat xs (m + 1)), (eat xs (m + 1))]) v41 w' := p41
          exact OpTo.call 78 #[(Value.int IntKind.i64 (-1)), v41] _ _ _ rfl (e20) (enters_of Tryz.func78 (by kernel_rfl) rfl) (by simp [e41, H.con]) ((hR2.out _ w' p41).mono fun e w2 ⟨v, h1, h2, h3⟩ => ⟨v, h1, h3, h2.le (Nat.le_trans hbW H.bel.size)⟩)
        · refine StepT.a _ (by rfl) fun ρ w' H => ?_
          exact OpTo.alloc rfl (fun w => by simp [go_sem]) H.bel.size
        · refine StepT.a _ (by rfl) fun ρ w' H => ?_
          exact OpTo.alloc rfl (fun w => by simp [go_sem]) H.bel.size
        intro vs Wt hBt hDt
        have hV19 : (Wh b P) (vs 19) Wt := hDt.1 19 (by omega)
        have hV42 : (Wh b R) (vs 42) Wt := hDt.1 42 (by omega)
        have hV43 : (PA wr.heap.size #[.bool false, .slice none 0 0] 37) (vs 43) Wt := hDt.1 43 (by omega)
        have hV44 : (PA wr.heap.size #[.bool false, .slice none 0 0] 37) (vs 44) Wt := hDt.1 44 (by omega)
        obtain ⟨r19, ea19, hr19, kr19⟩ := hV43
        obtain ⟨r20, ea20, hr20, kr20⟩ := hV44
        have hx20_19 : r20 ≠ r19 := fun h => hDt.2 44 43 (by omega) (by omega) (by omega) (by simp) (by simp) (by rw [ea20, ea19, h])
        clear hDt
        simp only [mergeS, Nat.reduceBEq, cond_true, cond_false, Nat.reduceAdd, List.drop_succ_cons, List.drop_zero, ea19, ea20]
        obtain ⟨lv19, ev19, rv19, cv19⟩ := hV19.cell
        obtain ⟨sl19, sc19, rfl, _⟩ := id rv19.1
        simp only [ev19]
        obtain ⟨lv20, ev20, rv20, cv20⟩ := hV42.cell
        obtain ⟨sl20, sc20, rfl, _⟩ := id rv20.1
        simp only [ev20]
        have x0 : Wt.cell? ⟨r19, 0, none⟩ = some (.bool false) := kr19.cell 0
        have x1 : Wt.cell? ⟨r19, 1, none⟩ = some (.slice none 0 0) := kr19.cell 1
        have x2 := kr19.frozen 0
        have x3 := kr19.frozen 1
        have x4 := kr19.lt
        have y0 : Wt.cell? ⟨r20, 0, none⟩ = some (.bool false) := kr20.cell 0
        have y1 : Wt.cell? ⟨r20, 1, none⟩ = some (.slice none 0 0) := kr20.cell 1
        have y2 := kr20.frozen 0
        have y3 := kr20.frozen 1
        have y4 := kr20.lt
        have kP : BlkW b r19 (P) ((Wt.setCell ⟨r19, 0, none⟩ (.bool (decide (P < 0)))).setCell ⟨r19, 1, none⟩ (.slice sl19 (dg (P).natAbs).length sc19)) := BlkW.put kr19 rfl rv19 cv19
        have kk := (kr20.far (p := ⟨r19, 0, none⟩) hx20_19 (.bool (decide (P < 0)))).far (p := ⟨r19, 1, none⟩) hx20_19 (.slice sl19 (dg (P).natAbs).length sc19)
        have hB1 : Below wr.heap.size wr ((Wt.setCell ⟨r19, 0, none⟩ (.bool (decide (P < 0)))).setCell ⟨r19, 1, none⟩ (.slice sl19 (dg (P).natAbs).length sc19)) := (hBt.setCell hr19 _).setCell hr19 _
        have rw9 : RdO ((Wt.setCell ⟨r19, 0, none⟩ (.bool (decide (P < 0)))).setCell ⟨r19, 1, none⟩ (.slice sl19 (dg (P).natAbs).length sc19)) b (.slice sl20 (dg (R).natAbs).length sc20) (dg (R).natAbs) := rv20.far (by decide) kr19 (over_set2 _ _ _ _)
        replace kP := kP.far (Ne.symm hx20_19) kk (.bool (decide (R < 0))) (.slice sl20 (dg (R).natAbs).length sc20)
        have kQ : BlkW b r20 (R) ((((Wt.setCell ⟨r19, 0, none⟩ (.bool (decide (P < 0)))).setCell ⟨r19, 1, none⟩ (.slice sl19 (dg (P).natAbs).length sc19)).setCell ⟨r20, 0, none⟩ (.bool (decide (R < 0)))).setCell ⟨r20, 1, none⟩ (.slice sl20 (dg (R).natAbs).length sc20)) := BlkW.put kk rfl rw9 cv20
        have hBf : Below wr.heap.size wr ((((Wt.setCell ⟨r19, 0, none⟩ (.bool (decide (P < 0)))).setCell ⟨r19, 1, none⟩ (.slice sl19 (dg (P).natAbs).length sc19)).setCell ⟨r20, 0, none⟩ (.bool (decide (R < 0)))).setCell ⟨r20, 1, none⟩ (.slice sl20 (dg (R).natAbs).length sc20)) := (hB1.setCell (p := ⟨r20, 0, none⟩) hr20 _).setCell (p := ⟨r20, 1, none⟩) hr20 _
        replace kR := kR.next hBf
        replace kG := kG.next hBf
        replace hD := hD.next hBf
        replace hbdW := Nat.le_trans hbdW hBf.size
        replace hb0 : Below b w _ := below_step hBf hbW hb0
        replace hbW := Nat.le_trans hbW hBf.size
        clear hV19 hV42 hBt kr19 kr20 ev19 rv19 cv19 ev20 rv20 cv20 kk hB1 rw9
        have q19 : wr.heap.size ≤ r19 := hr19
        have q20 : wr.heap.size ≤ r20 := hr20
        go_upto_region 17 with (fail)
        generalize (World.setCell (World.setCell (World.setCell (World.setCell _ _ _) _ _) _ _) _ _) = W16 at *
        clear x0 x1 x2 x3 x4 y0 y1 y2 y3 y4 hBf hr19 hr20
        by_cases h2 : m % 2 = 0
        · have hmI : (m : Int) % 2 = 0 := by omega
          have hN3 : Hid (∀ v w, RdWs w v [P, G] → Calls Tryz.prog 78 #[.int .i64 1, v] w (WhP (P * G) w)) := fun v w h => by
            have h1 := c_timesS 12100 1 _ v (by omega) (by simp) (by simp) (by simp only [List.length_cons, List.length_nil]; omega) (List.forall_mem_cons.2 ⟨zP, List.forall_mem_cons.2 ⟨zG.mono (by omega), fun _ h => (by cases h)⟩⟩) w h
            rw [pr2 P G] at h1
            exact h1
          have hN4 : Hid (∀ v w, RdWs w v [P * G, R] → Calls Tryz.prog 80 #[v] w (WhP (dwN G xs k) w)) := sums_of (by simp) (List.forall_mem_cons.2 ⟨(zP.mul zG).mono (by omega), List.forall_mem_cons.2 ⟨zR.mono (by omega), fun _ h => (by cases h)⟩⟩) (by rw [HN.out, if_neg he, if_pos h2, HP.out, HR.out]; exact dw_odd0 _ _ _ _ _)
          go_upto_region 18 with (fail)
          refine wp_region_tabF 5 [] [(0, 237), (1, 238), (2, 239), (3, 240), (4, 241)] [IsV (.func (.func 78) #[] #[]), Wh b P, Wh b G, IsWs [P, G], Wh b (P * G)] (by kernel_rfl) (by kernel_rfl) (by kernel_rfl) trivial ⟨IsV.closed _, Wh.closed _ _, Wh.closed _ _, IsWs.closed _, Wh.closed _ _, trivial⟩ ⟨?_, ?_, ?_, ?_, ?_, trivial⟩ ?_
          · refine StepT.q _ (by rfl) (by rfl) fun ρ w' H => ?_
            exact OpTo.move _ rfl (H.bas 10 (by kernel_rfl))
          · refine StepT.q _ (by rfl) (by rfl) fun ρ w' H => ?_
            have hx : ρ (.tmp 19) = .pointer (some ⟨r19, 0, none⟩) := H.bas 19 (by kernel_rfl); exact op_ldW _ rfl hx (kP.next H.bel)
          · refine StepT.q _ (by rfl) (by rfl) fun ρ w' H => ?_
            have hx : ρ (.tmp 12) = .pointer (some ⟨r12, 0, none⟩) := H.bas 12 (by kernel_rfl); exact op_ldW _ rfl hx (kG.next H.bel)
          · refine StepT.q _ (by rfl) (by rfl) fun ρ w' H => ?_
            obtain ⟨v1, e1, p1⟩ := H.dep 1 238 (by kernel_rfl)
            have p1 : (Wh b P) v1 w' := p1
            obtain ⟨v2, e2, p2⟩ := H.dep 2 239 (by kernel_rfl)
            have p2 : (Wh b G) v2 w' := p2
            exact op_bs2 _ _ _ _ rfl (by rw [e1]; exact p1) (by rw [e2]; exact p2)
          · refine StepT.q _ (by rfl) (by rfl) fun ρ w' H => ?_
            obtain ⟨v0, e0, p0⟩ := H.dep 0 237 (by kernel_rfl)
            obtain rfl : v0 = .func (.func 78) #[] #[] := p0
            obtain ⟨v3, e3, p3⟩ := H.dep 3 240 (by kernel_rfl)
            have p3 : (IsWs [P, G]) v3 w' := p3
            exact OpTo.call 78 #[(Value.int IntKind.i64 1), v3] _ _ _ rfl (e0) (enters_of Tryz.func78 (by kernel_rfl) rfl) (by simp [e3, H.con]) ((hN3.out _ w' p3).mono fun e w2 ⟨v, h1, h2, h3⟩ => ⟨v, h1, h3, h2.le (Nat.le_trans hbW H.bel.size)⟩)
          intro vs Wt hBt hDt
          have hV4 : (Wh b (P * G)) (vs 4) Wt := hDt.1 4 (by omega)
          clear hDt
          simp only [mergeS, Nat.reduceBEq, cond_true, cond_false, Nat.reduceAdd, List.drop_succ_cons, List.drop_zero]
          replace kR := kR.next hBt
          replace kG := kG.next hBt
          replace hD := hD.next hBt
          replace kP := kP.next hBt
          replace kQ := kQ.next hBt
          replace hb0 : Below b w _ := below_step hBt hbW hb0
          replace hbW := Nat.le_trans hbW hBt.size
          replace hbdW := Nat.le_trans hbdW hBt.size
          obtain ⟨lvU, evU, rvU, cvU⟩ := hV4.cell
          obtain ⟨slU, scU, rfl, _⟩ := id rvU.1
          simp only [evU]
          obtain ⟨lo, kr, _, _⟩ := id kP
          have x0 : Wt.cell? ⟨r19, 0, none⟩ = some (.bool (decide (P < 0))) := kr.cell 0
          have x1 : Wt.cell? ⟨r19, 1, none⟩ = some lo := kr.cell 1
          have x2 := kr.frozen 0
          have x3 := kr.frozen 1
          have x4 := kr.lt
          have kN : BlkW b r19 (P * G) ((Wt.setCell ⟨r19, 0, none⟩ (.bool (decide (P * G < 0)))).setCell ⟨r19, 1, none⟩ (.slice slU (dg (P * G).natAbs).length scU)) := BlkW.put kr rfl rvU cvU
          replace kQ := kQ.far (r' := r19) (by omega) kr (.bool (decide (P * G < 0))) (.slice slU (dg (P * G).natAbs).length scU)
          replace kG := kG.far (r' := r19) (by omega) kr (.bool (decide (P * G < 0))) (.slice slU (dg (P * G).natAbs).length scU)
          replace kR := (kR.far (p := ⟨r19, 0, none⟩) (by show b + 1 ≠ r19; omega) (.bool (decide (P * G < 0)))).far (p := ⟨r19, 1, none⟩) (by show b + 1 ≠ r19; omega) (.slice slU (dg (P * G).natAbs).length scU)
          replace hD := hD.far (r' := r19) (by simp [Value.ownBlock]; omega) kr (.bool (decide (P * G < 0))) (.slice slU (dg (P * G).natAbs).length scU)
          replace hb0 : Below b w ((Wt.setCell ⟨r19, 0, none⟩ (.bool (decide (P * G < 0)))).setCell ⟨r19, 1, none⟩ (.slice slU (dg (P * G).natAbs).length scU)) := (hb0.setCell (by show b ≤ r19; omega) _).setCell (by show b ≤ r19; omega) _
          replace hbW : b ≤ ((Wt.setCell ⟨r19, 0, none⟩ (.bool (decide (P * G < 0)))).setCell ⟨r19, 1, none⟩ (.slice slU (dg (P * G).natAbs).length scU)).heap.size := by simpa [World.setCell] using hbW
          replace hbdW : bd ≤ ((Wt.setCell ⟨r19, 0, none⟩ (.bool (decide (P * G < 0)))).setCell ⟨r19, 1, none⟩ (.slice slU (dg (P * G).natAbs).length scU)).heap.size := by simpa [World.setCell] using hbdW
          clear hV4 hBt evU rvU cvU kP kr
          go_upto_region 20 with (fail)
          generalize (World.setCell (World.setCell _ _ _) _ _) = W18 at *
          clear x0 x1 x2 x3 x4
          refine wp_region_tabF 6 [] [(0, 247), (1, 248), (2, 249), (3, 250), (4, 251), (5, 252)] [IsV (.slice (some ⟨g, 0, none⟩) k cap), Wh b (P * G), Wh b (R), IsWs [(P * G), (R)], Wh b (dwN G xs k), (fun v w => OwnsW w W18.heap.size b v [dwN G xs k])] (by kernel_rfl) (by kernel_rfl) (by kernel_rfl) trivial ⟨IsV.closed _, Wh.closed _ _, Wh.closed _ _, IsWs.closed _, Wh.closed _ _, fun v => OwnsW.closed W18.heap.size b v _, trivial⟩ ⟨?_, ?_, ?_, ?_, ?_, ?_, trivial⟩ ?_
          · refine StepT.q _ (by rfl) (by rfl) fun ρ w' H => ?_
            exact OpTo.move _ rfl (H.bas 15 (by kernel_rfl))
          · refine StepT.q _ (by rfl) (by rfl) fun ρ w' H => ?_
            have hx : ρ (.tmp 19) = .pointer (some ⟨r19, 0, none⟩) := H.bas 19 (by kernel_rfl); exact op_ldW _ rfl hx (kN.next H.bel)
          · refine StepT.q _ (by rfl) (by rfl) fun ρ w' H => ?_
            have hx : ρ (.tmp 20) = .pointer (some ⟨r20, 0, none⟩) := H.bas 20 (by kernel_rfl); exact op_ldW _ rfl hx (kQ.next H.bel)
          · refine StepT.q _ (by rfl) (by rfl) fun ρ w' H => ?_
            obtain ⟨v1, e1, p1⟩ := H.dep 1 248 (by kernel_rfl)
            have p1 : (Wh b (P * G)) v1 w' := p1
            obtain ⟨v2, e2, p2⟩ := H.dep 2 249 (by kernel_rfl)
            have p2 : (Wh b (R)) v2 w' := p2
            exact op_bs2 _ _ _ _ rfl (by rw [e1]; exact p1) (by rw [e2]; exact p2)
          · refine StepT.q _ (by rfl) (by rfl) fun ρ w' H => ?_
            obtain ⟨v3, e3, p3⟩ := H.dep 3 250 (by kernel_rfl)
            have p3 : (IsWs [(P * G), (R)]) v3 w' := p3
            exact OpTo.call 80 #[v3] _ _ _ rfl (H.fn 80) (enters_of Tryz.func80 (by kernel_rfl) rfl) (by simp [e3]) ((hN4.out _ w' p3).mono fun e w2 ⟨v, h1, h2, h3⟩ => ⟨v, h1, h3, h2.le (Nat.le_trans hbW H.bel.size)⟩)
          · refine StepT.q _ (by rfl) (by rfl) fun ρ w' H => ?_
            obtain ⟨v4, e4, p4⟩ := H.dep 4 251 (by kernel_rfl)
            have p4 : (Wh b (dwN G xs k)) v4 w' := p4
            exact op_bo1 _ _ H.bel.size rfl (by rw [e4]; exact p4)
          intro vs Wt hBt hDt
          have hv0 : vs 0 = .slice (some ⟨g, 0, none⟩) k cap := hDt.1 0 (by omega)
          have hV5 : ((fun v w => OwnsW w W18.heap.size b v [dwN G xs k])) (vs 5) Wt := hDt.1 5 (by omega)
          clear hDt
          simp only [mergeS, Nat.reduceBEq, cond_true, cond_false, Nat.reduceAdd, List.drop_succ_cons, List.drop_zero, hv0]
          clear hv0
          have hVB : OwnsW Wt W18.heap.size b (vs 5) [dwN G xs k] := hV5
          replace kR := kR.next hBt
          replace kG := kG.next hBt
          replace hD := hD.next hBt
          replace hb0 : Below b w _ := below_step hBt hbW hb0
          replace hbW := Nat.le_trans hbW hBt.size
          replace hbdW := Nat.le_trans hbdW hBt.size
          have hgd : bd ≤ g := hgb.out
          go_wp2_with (at_builtin; refine wpList_appW rfl _ _ rfl bd b _ (.slice (some ⟨g, 0, none⟩) k cap) _ xs (dwN G xs k) rfl rfl hD hVB hbdW (by rw [HK.out]; omega) ?_; intro v9 W9 hD9 hO9 hF9)
          rw [← HX.out] at hD9
          have hl9 : (dwL A B x (k + 1 - 5)).length = k + 1 := by rw [dwL_len]; omega
          obtain ⟨g9, cap9, rfl, _, _⟩ := hD9.addr (by omega)
          rw [hl9] at hD9 ⊢
          have hR9 := kR.over hO9 (by simp [Value.ownBlock]; omega)
          have hG9 := hF9 _ _ kG (by simp [Value.ownBlock]; omega)
          have hb9 : Below b w W9 := hO9.belowGe hb0 hbW (by simp [Value.ownBlock]; omega)
          have hs9 := Nat.le_trans hbdW hO9.size
          clear hl9 hO9 hF9 hD kR kG
          go_wp2
          go_roundw
          case rel => exact ⟨k + 1, g9, cap9, by go_num, rfl, by omega, .inl (by omega), hD9, hG9, hR9, hs9, hb9⟩
          case measure => simp [intOf]; omega
        · have hmI : (m : Int) % 2 = 1 := by omega
          have hN3 : Hid (∀ v w, RdWs w v [R, G] → Calls Tryz.prog 78 #[.int .i64 1, v] w (WhP (R * G) w)) := fun v w h => by
            have h1 := c_timesS 12100 1 _ v (by omega) (by simp) (by simp) (by simp only [List.length_cons, List.length_nil]; omega) (List.forall_mem_cons.2 ⟨zR, List.forall_mem_cons.2 ⟨zG.mono (by omega), fun _ h => (by cases h)⟩⟩) w h
            rw [pr2 R G] at h1
            exact h1
          have hN4 : Hid (∀ v w, RdWs w v [P, R * G] → Calls Tryz.prog 80 #[v] w (WhP (dwN G xs k) w)) := sums_of (by simp) (List.forall_mem_cons.2 ⟨zP.mono (by omega), List.forall_mem_cons.2 ⟨(zR.mul zG).mono (by omega), fun _ h => (by cases h)⟩⟩) (by rw [HN.out, if_neg he, if_neg h2, HP.out, HR.out]; exact dw_odd1 _ _ _ _ _)
          go_upto_region 19 with (fail)
          refine wp_region_tabF 5 [] [(0, 242), (1, 243), (2, 244), (3, 245), (4, 246)] [IsV (.func (.func 78) #[] #[]), Wh b R, Wh b G, IsWs [R, G], Wh b (R * G)] (by kernel_rfl) (by kernel_rfl) (by kernel_rfl) trivial ⟨IsV.closed _, Wh.closed _ _, Wh.closed _ _, IsWs.closed _, Wh.closed _ _, trivial⟩ ⟨?_, ?_, ?_, ?_, ?_, trivial⟩ ?_
          · refine StepT.q _ (by rfl) (by rfl) fun ρ w' H => ?_
            exact OpTo.move _ rfl (H.bas 10 (by kernel_rfl))
          · refine StepT.q _ (by rfl) (by rfl) fun ρ w' H => ?_
            have hx : ρ (.tmp 20) = .pointer (some ⟨r20, 0, none⟩) := H.bas 20 (by kernel_rfl); exact op_ldW _ rfl hx (kQ.next H.bel)
          · refine StepT.q _ (by rfl) (by rfl) fun ρ w' H => ?_
            have hx : ρ (.tmp 12) = .pointer (some ⟨r12, 0, none⟩) := H.bas 12 (by kernel_rfl); exact op_ldW _ rfl hx (kG.next H.bel)
          · refine StepT.q _ (by rfl) (by rfl) fun ρ w' H => ?_
            obtain ⟨v1, e1, p1⟩ := H.dep 1 243 (by kernel_rfl)
            have p1 : (Wh b R) v1 w' := p1
            obtain ⟨v2, e2, p2⟩ := H.dep 2 244 (by kernel_rfl)
            have p2 : (Wh b G) v2 w' := p2
            exact op_bs2 _ _ _ _ rfl (by rw [e1]; exact p1) (by rw [e2]; exact p2)
          · refine StepT.q _ (by rfl) (by rfl) fun ρ w' H => ?_
            obtain ⟨v0, e0, p0⟩ := H.dep 0 242 (by kernel_rfl)
            obtain rfl : v0 = .func (.func 78) #[] #[] := p0
            obtain ⟨v3, e3, p3⟩ := H.dep 3 245 (by kernel_rfl)
            have p3 : (IsWs [R, G]) v3 w' := p3
            exact OpTo.call 78 #[(Value.int IntKind.i64 1), v3] _ _ _ rfl (e0) (enters_of Tryz.func78 (by kernel_rfl) rfl) (by simp [e3, H.con]) ((hN3.out _ w' p3).mono fun e w2 ⟨v, h1, h2, h3⟩ => ⟨v, h1, h3, h2.le (Nat.le_trans hbW H.bel.size)⟩)
          intro vs Wt hBt hDt
          have hV4 : (Wh b (R * G)) (vs 4) Wt := hDt.1 4 (by omega)
          clear hDt
          simp only [mergeS, Nat.reduceBEq, cond_true, cond_false, Nat.reduceAdd, List.drop_succ_cons, List.drop_zero]
          replace kR := kR.next hBt
          replace kG := kG.next hBt
          replace hD := hD.next hBt
          replace kP := kP.next hBt
          replace kQ := kQ.next hBt
          replace hb0 : Below b w _ := below_step hBt hbW hb0
          replace hbW := Nat.le_trans hbW hBt.size
          replace hbdW := Nat.le_trans hbdW hBt.size
          obtain ⟨lvU, evU, rvU, cvU⟩ := hV4.cell
          obtain ⟨slU, scU, rfl, _⟩ := id rvU.1
          simp only [evU]
          obtain ⟨lo, kr, _, _⟩ := id kQ
          have x0 : Wt.cell? ⟨r20, 0, none⟩ = some (.bool (decide (R < 0))) := kr.cell 0
          have x1 : Wt.cell? ⟨r20, 1, none⟩ = some lo := kr.cell 1
          have x2 := kr.frozen 0
          have x3 := kr.frozen 1
          have x4 := kr.lt
          have kN : BlkW b r20 (R * G) ((Wt.setCell ⟨r20, 0, none⟩ (.bool (decide (R * G < 0)))).setCell ⟨r20, 1, none⟩ (.slice slU (dg (R * G).natAbs).length scU)) := BlkW.put kr rfl rvU cvU
          replace kP := kP.far (r' := r20) (by omega) kr (.bool (decide (R * G < 0))) (.slice slU (dg (R * G).natAbs).length scU)
          replace kG := kG.far (r' := r20) (by omega) kr (.bool (decide (R * G < 0))) (.slice slU (dg (R * G).natAbs).length scU)
          replace kR := (kR.far (p := ⟨r20, 0, none⟩) (by show b + 1 ≠ r20; omega) (.bool (decide (R * G < 0)))).far (p := ⟨r20, 1, none⟩) (by show b + 1 ≠ r20; omega) (.slice slU (dg (R * G).natAbs).length scU)
          replace hD := hD.far (r' := r20) (by simp [Value.ownBlock]; omega) kr (.bool (decide (R * G < 0))) (.slice slU (dg (R * G).natAbs).length scU)
          replace hb0 : Below b w ((Wt.setCell ⟨r20, 0, none⟩ (.bool (decide (R * G < 0)))).setCell ⟨r20, 1, none⟩ (.slice slU (dg (R * G).natAbs).length scU)) := (hb0.setCell (by show b ≤ r20; omega) _).setCell (by show b ≤ r20; omega) _
          replace hbW : b ≤ ((Wt.setCell ⟨r20, 0, none⟩ (.bool (decide (R * G < 0)))).setCell ⟨r20, 1, none⟩ (.slice slU (dg (R * G).natAbs).length scU)).heap.size := by simpa [World.setCell] using hbW
          replace hbdW : bd ≤ ((Wt.setCell ⟨r20, 0, none⟩ (.bool (decide (R * G < 0)))).setCell ⟨r20, 1, none⟩ (.slice slU (dg (R * G).natAbs).length scU)).heap.size := by simpa [World.setCell] using hbdW
          clear hV4 hBt evU rvU cvU kQ kr
          go_upto_region 20 with (fail)
          generalize (World.setCell (World.setCell _ _ _) _ _) = W18 at *
          clear x0 x1 x2 x3 x4
          refine wp_region_tabF 6 [] [(0, 247), (1, 248), (2, 249), (3, 250), (4, 251), (5, 252)] [IsV (.slice (some ⟨g, 0, none⟩) k cap), Wh b (P), Wh b (R * G), IsWs [(P), (R * G)], Wh b (dwN G xs k), (fun v w => OwnsW w W18.heap.size b v [dwN G xs k])] (by kernel_rfl) (by kernel_rfl) (by kernel_rfl) trivial ⟨IsV.closed _, Wh.closed _ _, Wh.closed _ _, IsWs.closed _, Wh.closed _ _, fun v => OwnsW.closed W18.heap.size b v _, trivial⟩ ⟨?_, ?_, ?_, ?_, ?_, ?_, trivial⟩ ?_
          · refine StepT.q _ (by rfl) (by rfl) fun ρ w' H => ?_
            exact OpTo.move _ rfl (H.bas 15 (by kernel_rfl))
          · refine StepT.q _ (by rfl) (by rfl) fun ρ w' H => ?_
            have hx : ρ (.tmp 19) = .pointer (some ⟨r19, 0, none⟩) := H.bas 19 (by kernel_rfl); exact op_ldW _ rfl hx (kP.next H.bel)
          · refine StepT.q _ (by rfl) (by rfl) fun ρ w' H => ?_
            have hx : ρ (.tmp 20) = .pointer (some ⟨r20, 0, none⟩) := H.bas 20 (by kernel_rfl); exact op_ldW _ rfl hx (kN.next H.bel)
          · refine StepT.q _ (by rfl) (by rfl) fun ρ w' H => ?_
            obtain ⟨v1, e1, p1⟩ := H.dep 1 248 (by kernel_rfl)
            have p1 : (Wh b (P)) v1 w' := p1
            obtain ⟨v2, e2, p2⟩ := H.dep 2 249 (by kernel_rfl)
            have p2 : (Wh b (R * G)) v2 w' := p2
            exact op_bs2 _ _ _ _ rfl (by rw [e1]; exact p1) (by rw [e2]; exact p2)
          · refine StepT.q _ (by rfl) (by rfl) fun ρ w' H => ?_
            obtain ⟨v3, e3, p3⟩ := H.dep 3 250 (by kernel_rfl)
            have p3 : (IsWs [(P), (R * G)]) v3 w' := p3
            exact OpTo.call 80 #[v3] _ _ _ rfl (H.fn 80) (enters_of Tryz.func80 (by kernel_rfl) rfl) (by simp [e3]) ((hN4.out _ w' p3).mono fun e w2 ⟨v, h1, h2, h3⟩ => ⟨v, h1, h3, h2.le (Nat.le_trans hbW H.bel.size)⟩)
          · refine StepT.q _ (by rfl) (by rfl) fun ρ w' H => ?_
            obtain ⟨v4, e4, p4⟩ := H.dep 4 251 (by kernel_rfl)
            have p4 : (Wh b (dwN G xs k)) v4 w' := p4
            exact op_bo1 _ _ H.bel.size rfl (by rw [e4]; exact p4)
          intro vs Wt hBt hDt
          have hv0 : vs 0 = .slice (some ⟨g, 0, none⟩) k cap := hDt.1 0 (by omega)
          have hV5 : ((fun v w => OwnsW w W18.heap.size b v [dwN G xs k])) (vs 5) Wt := hDt.1 5 (by omega)
          clear hDt
          simp only [mergeS, Nat.reduceBEq, cond_true, cond_false, Nat.reduceAdd, List.drop_succ_cons, List.drop_zero, hv0]
          clear hv0
          have hVB : OwnsW Wt W18.heap.size b (vs 5) [dwN G xs k] := hV5
          replace kR := kR.next hBt
          replace kG := kG.next hBt
          replace hD := hD.next hBt
          replace hb0 : Below b w _ := below_step hBt hbW hb0
          replace hbW := Nat.le_trans hbW hBt.size
          replace hbdW := Nat.le_trans hbdW hBt.size
          have hgd : bd ≤ g := hgb.out
          go_wp2_with (at_builtin; refine wpList_appW rfl _ _ rfl bd b _ (.slice (some ⟨g, 0, none⟩) k cap) _ xs (dwN G xs k) rfl rfl hD hVB hbdW (by rw [HK.out]; omega) ?_; intro v9 W9 hD9 hO9 hF9)
          rw [← HX.out] at hD9
          have hl9 : (dwL A B x (k + 1 - 5)).length = k + 1 := by rw [dwL_len]; omega
          obtain ⟨g9, cap9, rfl, _, _⟩ := hD9.addr (by omega)
          rw [hl9] at hD9 ⊢
          have hR9 := kR.over hO9 (by simp [Value.ownBlock]; omega)
          have hG9 := hF9 _ _ kG (by simp [Value.ownBlock]; omega)
          have hb9 : Below b w W9 := hO9.belowGe hb0 hbW (by simp [Value.ownBlock]; omega)
          have hs9 := Nat.le_trans hbdW hO9.size
          clear hl9 hO9 hF9 hD kR kG
          go_wp2
          go_roundw
          case rel => exact ⟨k + 1, g9, cap9, by go_num, rfl, by omega, .inl (by omega), hD9, hG9, hR9, hs9, hb9⟩
          case measure => simp [intOf]; omega
    · obtain ⟨hke, _, HE⟩ := hD.elt (by omega)
      clear hke
      have hE2 : Hid (eat (dwL A B x (k - 5)) n = dwE A B x n) := dwE_of A B x (k - 5) n (by omega)
      generalize dwL A B x (k - 5) = xs at hD HE hE2
      go_upto_region 21 with (fail)
      refine wp_region_tabF 4 [] [(0, 254), (1, 255), (2, 256), (3, 257)] [IsV (.slice (some ⟨g, 0, none⟩) k cap), IsV (.int .i64 (n : Int)), IsV (.pointer (some ⟨g, n * 2, none⟩)), Wh b (dwE A B x n)] (by kernel_rfl) (by kernel_rfl) (by kernel_rfl) trivial ⟨IsV.closed _, IsV.closed _, IsV.closed _, Wh.closed _ _, trivial⟩ ⟨?_, ?_, ?_, ?_, trivial⟩ ?_
      · refine StepT.q _ (by rfl) (by rfl) fun ρ w' H => ?_
        exact OpTo.move _ rfl (H.bas 15 (by kernel_rfl))
      · refine StepT.q _ (by rfl) (by rfl) fun ρ w' H => ?_
        exact OpTo.move _ rfl (H.bas 2 (by kernel_rfl))
      · refine StepT.q _ (by rfl) (by rfl) fun ρ w' H => ?_
        obtain ⟨v0, e0, p0⟩ := H.dep 0 254 (by kernel_rfl)
        obtain rfl : v0 = .slice (some ⟨g, 0, none⟩) k cap := p0
        obtain ⟨v1, e1, p1⟩ := H.dep 1 255 (by kernel_rfl)
        obtain rfl : v1 = .int .i64 (n : Int) := p1
        exact op_idxW _ _ rfl e0 e1 (by omega)
      · refine StepT.q _ (by rfl) (by rfl) fun ρ w' H => ?_
        obtain ⟨v2, e2, p2⟩ := H.dep 2 256 (by kernel_rfl)
        obtain rfl : v2 = .pointer (some ⟨g, n * 2, none⟩) := p2
        exact hE2.out ▸ op_eltX _ rfl e2 (HE.next H.bel) (by omega)
      intro vs Wt hBt hDt
      have hV3 : (Wh b (dwE A B x n)) (vs 3) Wt := hDt.1 3 (by omega)
      clear hDt
      simp only [mergeS, Nat.reduceBEq, cond_true, cond_false, Nat.reduceAdd, List.drop_succ_cons, List.drop_zero]
      replace kR := kR.next hBt
      replace hb0 : Below b w _ := below_step hBt hbW hb0
      obtain ⟨lvU, evU, rvU, cvU⟩ := hV3.cell
      obtain ⟨slU, scU, rfl, _⟩ := id rvU.1
      simp only [evU]
      have x0 : Wt.cell? ⟨b + 1, 0, none⟩ = some (.bool false) := kR.cell 0
      have x1 : Wt.cell? ⟨b + 1, 1, none⟩ = some (.slice none 0 0) := kR.cell 1
      have x2 := kR.frozen 0
      have x3 := kR.frozen 1
      have x4 := kR.lt
      have k9 := (kR.set 0 (.bool (decide (dwE A B x n < 0)))).set 1 (.slice slU (dg (dwE A B x n).natAbs).length scU)
      have hB9 : Below b w ((Wt.setCell ⟨b + 1, 0, none⟩ (.bool (decide (dwE A B x n < 0)))).setCell ⟨b + 1, 1, none⟩ (.slice slU (dg (dwE A B x n).natAbs).length scU)) := (hb0.setCell (by show b ≤ b + 1; omega) _).setCell (by show b ≤ b + 1; omega) _
      have ho8 : RdO ((Wt.setCell ⟨b + 1, 0, none⟩ (.bool (decide (dwE A B x n < 0)))).setCell ⟨b + 1, 1, none⟩ (.slice slU (dg (dwE A B x n).natAbs).length scU)) b (.slice slU (dg (dwE A B x n).natAbs).length scU) (dg (dwE A B x n).natAbs) := rvU.far (by decide) kR (over_set2 _ _ _ _)
      clear kR kG hD HE hE2 hb0 hV3 evU rvU cvU hBt
      generalize dwE A B x n = N at *
      go_wp2
      generalize (World.setCell (World.setCell _ _ _) _ _) = w9 at hB9 k9 ho8 ⊢
      have q0 : w9.cell? ⟨b + 1, 0, none⟩ = some (.bool (decide (N < 0))) := k9.cell 0
      have q1 : w9.cell? ⟨b + 1, 1, none⟩ = some (.slice slU (dg N.natAbs).length scU) := k9.cell 1
      refine bodyPost_ret (v := .agg #[.bool (decide (N < 0)), .slice slU (dg N.natAbs).length scU]) (by simp [results, Tryz.results46, go_sem, q0, q1]) rfl ?_
      have eb := HBW.out
      subst eb
      exact ⟨_, rfl, ⟨_, rfl, ho8⟩, hB9⟩
end Go.Proofs.YtgjdgcmmlfmhmaaGreatDoor
