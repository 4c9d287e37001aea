/- Several texts joined: Stv Trb Odr Tpt Tix DrawT Dr DrJ Frm. -/
import Derived.Test.YtbcjlhbpgcjddaaGreatDoorChain
import Derived.Test.YtbcjlhbpgcjddaaGreatDoorMga
import Derived.Test.YtbcjlhbpgcjddaaGreatDoorMgb
import Derived.Test.YtbcjlhbpgcjddaaGreatDoorPt
import Derived.Test.YtbcjlhbpgcjddaaGreatDoorFrac
import Derived.Test.YtbcjlhbpgcjddaaGreatDoorPt2
import Derived.Test.YtbcjlhbpgcjddaaGreatDoorDraw
import Derived.Deep.Cut
import Derived.BigRegion
import Derived.Test.YtbcjlhbpgcjddaaGreatDoorFac
/- Stv -/
namespace Go.Proofs.YtbcjlhbpgcjddaaGreatDoor
open Go.RowKit

section
variable {P : Program} {ops : Array Oper} {Q : Exit → Act → World → Prop} {ex : List Nat} {W : World} {D : World → Prop}
/-- an operation that leaves a value and a world, both known up to a predicate -/
theorem stepC_val {a : Act} {listed : Array Bool} {f i : Nat} {o : Oper} (dd : Option Tmp) (D' : Value → World → Prop) (ho : ops[i]? = some o) (hw : Region.wanted o (yielded ops a.tmps) = true)
    (hdd : o.dst = dd) (hD' : ∀ v, Closed (D' v))
    (hrun : ∀ w, Over ex W w → D w → ∃ v w', (execOp a.eval o).run P w = .ok (.value v) w' ∧ Over ex w w' ∧ D' v w')
    (h : ∀ v, (∃ w, Over ex W w ∧ D' v w) → wpAnyF P ops Q ex W (fun _ => false) f (listed.setIfInBounds i true) (a.put dd v) (fun _ => True) (D' v)) :
    StepF P ops Q ex W (fun _ => false) f listed a (fun _ => True) D i := fun w hO hd => by
  unfold wpOp
  simp only [ho, hw, if_true]
  refine .inl ?_
  obtain ⟨v, w', h1, h2, h3⟩ := hrun w hO hd
  unfold Oper.wp
  rw [h1]
  simp only [Oper.upon]
  rw [hdd]
  exact ⟨fun _ => True, D' v, hD' v, fun _ _ => trivial, fun _ => rfl, hO.trans h2, h3, h v ⟨w', hO.trans h2, h3⟩⟩
end
end Go.Proofs.YtbcjlhbpgcjddaaGreatDoor

/- Trb -/
namespace Go.Proofs.YtbcjlhbpgcjddaaGreatDoor
open Go.RowKit

theorem c_slope (A B X1 Y1 E1 X2 Y2 E2 : Int) (hA : -1000 ≤ A ∧ A ≤ 1000) (hp : PtIn X1 Y1 E1) (hq : PtIn X2 Y2 E2) (w : World) :
    Calls Tryz.prog 175 #[.agg #[.int .i64 A, .int .i64 B], .agg #[.int .i64 X1, .int .i64 Y1, .int .i64 E1], .agg #[.int .i64 X2, .int .i64 Y2, .int .i64 E2]] w fun e w' => e = .returned (.tuple #[.int .i64 (slN A X1 Y1 E1 X2 Y2 E2), .int .i64 (slD X1 Y1 E1 X2 Y2 E2)]) ∧ Below w.heap.size w w' := by
  by_cases h : X1 = X2 ∧ Y1 = Y2 ∧ E1 = E2
  · rw [(slE (A := A) h).1, (slE (A := A) h).2]
    obtain ⟨rfl, rfl, rfl⟩ := h
    exact c_slope_same A B X1 Y1 E1 hA hp w
  · rw [(slG (A := A) h).1, (slG (A := A) h).2]
    exact c_slope_diff A B X1 Y1 E1 X2 Y2 E2 hp hq h w
/-- a whole in a block -/
def WhB (r : Nat) (N : Int) (w : World) : Prop := ∃ lv, Blk r #[.bool (decide (N < 0)), lv] 164 w ∧ RdL w lv (dg N.natAbs)
theorem WhB.below {r : Nat} {N : Int} {w w1 : World} (h : WhB r N w) (hb : Below w.heap.size w w1) : WhB r N w1 := by
  obtain ⟨lv, h1, h2⟩ := h
  exact ⟨lv, h1.next hb, h2.below hb⟩
theorem WhB.lt {r : Nat} {N : Int} {w : World} (h : WhB r N w) : r < w.heap.size := by
  obtain ⟨lv, h1, _⟩ := h
  exact h1.lt
theorem WhB.next {r n : Nat} {N : Int} {w w1 : World} (h : WhB r N w) (hb : Below n w w1) (hn : n = w.heap.size := by rfl) : WhB r N w1 := h.below (hn ▸ hb)
theorem WhR.below0' {N : Int} {v : Value} {w w1 : World} (h : WhR N v w) (hb : Below w.heap.size w w1) : WhR N v w1 := h.below hb
/-- what is stored into a block of a whole leaves the digits elsewhere -/
theorem RdL.overNew {w w' : World} {r : Nat} {v : Value} {L : List Int} (h : RdL w v L) (hk : Blk r #[.bool false, .slice none 0 0] 164 w) (ho : Over [r] w w') : RdL w' v L := by
  obtain ⟨a, cap, hv, hm, hc⟩ := h
  refine ⟨a, cap, hv, hm, fun i hi => ?_⟩
  obtain ⟨g, o, ha, q1, q2⟩ := hc i hi
  have hg : g ≠ r := by
    rintro rfl
    rw [hk.cell (o + i)] at q1
    match h0 : o + i, q1 with
    | 0, q1 => simp at q1
    | 1, q1 => simp at q1
    | n + 2, q1 => simp at q1
  exact ⟨g, o, ha, (ho.cell (p := ⟨g, o + i, none⟩) q2 (by simpa using hg)).trans q1, Nat.lt_of_lt_of_le q2 ho.size⟩
theorem RdL.overSlot {w w' : World} {r : Nat} {b : Bool} {x : Option Addr} {k c : Nat} {v : Value} {L : List Int} (h : RdL w v L) (hk : Blk r #[.bool b, .slice x k c] 164 w) (ho : Over [r] w w') : RdL w' v L := by
  obtain ⟨a, cap, hv, hm, hc⟩ := h
  refine ⟨a, cap, hv, hm, fun i hi => ?_⟩
  obtain ⟨g, o, ha, q1, q2⟩ := hc i hi
  have hg : g ≠ r := by
    rintro rfl
    rw [hk.cell (o + i)] at q1
    match h0 : o + i, q1 with
    | 0, q1 => simp at q1
    | 1, q1 => simp at q1
    | n + 2, q1 => simp at q1
  exact ⟨g, o, ha, (ho.cell (p := ⟨g, o + i, none⟩) q2 (by simpa using hg)).trans q1, Nat.lt_of_lt_of_le q2 ho.size⟩
set_option maxHeartbeats 4000000 in
set_option maxRecDepth 100000 in
theorem c_addFin (A B X1 Y1 E1 X2 Y2 E2 : Int) (hA : -1000 ≤ A ∧ A ≤ 1000) (hB : -10000 ≤ B ∧ B ≤ 10000) (fp : FinP A B X1 Y1 E1) (fq : FinP A B X2 Y2 E2) (hno : ¬ (X1 = X2 ∧ Y1 = -Y2 ∧ E1 = E2)) (w : World) :
    Calls Tryz.prog 150 #[.agg #[.int .i64 A, .int .i64 B], .agg #[.int .i64 X1, .int .i64 Y1, .int .i64 E1], .agg #[.int .i64 X2, .int .i64 Y2, .int .i64 E2]] w fun e w' =>
      e = .returned (adR (adS A B X1 Y1 E1 X2 Y2 E2)) ∧ Below w.heap.size w w' := by
  obtain ⟨hd, hn, hm, hs0⟩ := ad_facts hA fp fq hno
  have hs := Lib.hid hs0
  clear hs0
  have h1 : E1 ≠ 0 := by have := fp.2.1; omega
  have h2 : E2 ≠ 0 := by have := fq.2.1; omega
  have hp : PtIn X1 Y1 E1 := fp.ptIn
  have hq : PtIn X2 Y2 E2 := fq.ptIn
  clear fp fq
  show Calls _ _ _ _ (fun e w' => e = .returned (adR (adF A B X1 Y1 E1 (adN A X1 Y1 E1 X2 Y2 E2) (adM A X1 Y1 E1 X2 Y2 E2) (adT (adN A X1 Y1 E1 X2 Y2 E2) (adM A X1 Y1 E1 X2 Y2 E2) X1 E1 X2 E2) (adB (adM A X1 Y1 E1 X2 Y2 E2) E1 E2) 20 1)) ∧ Below w.heap.size w w')
  have HSl := Lib.hid (fun W => c_slope A B X1 Y1 E1 X2 Y2 E2 hA hp hq W)
  have HOp := Lib.hid (fun W => c_opposite X2 Y2 E2 hq.2.1 W)
  have kC := (((Blk.new w #[.int .i64 A, .int .i64 B] 45).alloc (.cells #[.int .i64 X1, .int .i64 Y1, .int .i64 E1] 41)).alloc (.cells #[.int .i64 X2, .int .i64 Y2, .int .i64 E2] 41)).alloc (.cells #[.int .i64 0, .int .i64 0, .int .i64 0] 41)
  have kP := ((Blk.new (w.alloc (.cells #[.int .i64 A, .int .i64 B] 45)) #[.int .i64 X1, .int .i64 Y1, .int .i64 E1] 41).alloc (.cells #[.int .i64 X2, .int .i64 Y2, .int .i64 E2] 41)).alloc (.cells #[.int .i64 0, .int .i64 0, .int .i64 0] 41)
  have kQ := (Blk.new ((w.alloc (.cells #[.int .i64 A, .int .i64 B] 45)).alloc (.cells #[.int .i64 X1, .int .i64 Y1, .int .i64 E1] 41)) #[.int .i64 X2, .int .i64 Y2, .int .i64 E2] 41).alloc (.cells #[.int .i64 0, .int .i64 0, .int .i64 0] 41)
  have kR := Blk.new (((w.alloc (.cells #[.int .i64 A, .int .i64 B] 45)).alloc (.cells #[.int .i64 X1, .int .i64 Y1, .int .i64 E1] 41)).alloc (.cells #[.int .i64 X2, .int .i64 Y2, .int .i64 E2] 41)) #[.int .i64 0, .int .i64 0, .int .i64 0] 41
  have hb0 : Below w.heap.size w ((((w.alloc (.cells #[.int .i64 A, .int .i64 B] 45)).alloc (.cells #[.int .i64 X1, .int .i64 Y1, .int .i64 E1] 41)).alloc (.cells #[.int .i64 X2, .int .i64 Y2, .int .i64 E2] 41)).alloc (.cells #[.int .i64 0, .int .i64 0, .int .i64 0] 41)) := ((((Below.refl _ _).alloc (Nat.le_refl _) _).alloc (by simp) _).alloc (by simp; omega) _).alloc (by simp; omega) _
  simp only [World.size_alloc] at kP kQ kR
  have hsz := hb0.size
  obtain ⟨hX1, hY1, hE1⟩ := hp
  obtain ⟨hX2, hY2, hE2⟩ := hq
  generalize hRes : adR (adF A B X1 Y1 E1 (adN A X1 Y1 E1 X2 Y2 E2) (adM A X1 Y1 E1 X2 Y2 E2) (adT (adN A X1 Y1 E1 X2 Y2 E2) (adM A X1 Y1 E1 X2 Y2 E2) X1 E1 X2 E2) (adB (adM A X1 Y1 E1 X2 Y2 E2) E1 E2) 20 1) = Res
  have HRes := Lib.hid hRes
  clear hRes
  have hN0 : Hid (adN A X1 Y1 E1 X2 Y2 E2 = (slN A X1 Y1 E1 X2 Y2 E2).tdiv (gcdI (slN A X1 Y1 E1 X2 Y2 E2) (slD X1 Y1 E1 X2 Y2 E2))) := rfl
  have hM0 : Hid (adM A X1 Y1 E1 X2 Y2 E2 = (slD X1 Y1 E1 X2 Y2 E2).tdiv (gcdI (slN A X1 Y1 E1 X2 Y2 E2) (slD X1 Y1 E1 X2 Y2 E2))) := rfl
  have hsb : (-9000000000000000000 ≤ slN A X1 Y1 E1 X2 Y2 E2 ∧ slN A X1 Y1 E1 X2 Y2 E2 ≤ 9000000000000000000) ∧ (-9000000000000000000 ≤ slD X1 Y1 E1 X2 Y2 E2 ∧ slD X1 Y1 E1 X2 Y2 E2 ≤ 9000000000000000000) := by
    obtain ⟨z1, z2, z3, z4⟩ := cub_bd 1000 (x := A) (e := E1) (by omega) hE1
    have x1 := mulb (x := 3 * X1) (y := X1) 30000 10000 (by omega) (by omega)
    have y1 := mulb (x := 2 * Y1) (y := E1) 6000000 20 (by omega) (by omega)
    obtain ⟨a1, a2, a3, _⟩ := cub_bd 3000000 (x := Y2) (e := E1) (by omega) hE1
    obtain ⟨b1, b2, b3, _⟩ := cub_bd 3000000 (x := Y1) (e := E2) (by omega) hE2
    obtain ⟨c1, c2, _, _⟩ := cub_bd 10000 (x := X2) (e := E1) (by omega) hE1
    obtain ⟨d1, d2, _, _⟩ := cub_bd 10000 (x := X1) (e := E2) (by omega) hE2
    have e1 := mulb (x := E1) (y := E2) 20 20 (by omega) (by omega)
    have e2 := mulb (x := E1 * E2) (y := X2 * E1 * E1 - X1 * E2 * E2) 400 8000000 (by omega) (by omega)
    unfold slN slD
    split <;> omega
  generalize slN A X1 Y1 E1 X2 Y2 E2 = n0 at *
  generalize slD X1 Y1 E1 X2 Y2 E2 = m0 at *
  have HG := Lib.hid (fun W => c_gcd n0 m0 hsb.1 hsb.2 W)
  generalize gcdI n0 m0 = d at *
  generalize adN A X1 Y1 E1 X2 Y2 E2 = n at *
  generalize adM A X1 Y1 E1 X2 Y2 E2 = m at *
  go_enter Tryz.func150, Tryz.ntmps150
  go_upto_region 1 with (fail)
  generalize (((w.alloc _).alloc _).alloc _).alloc _ = W at *
  have hRC : w.heap.size ≤ w.heap.size + 1 + 1 + 1 := by omega
  generalize w.heap.size + 1 + 1 + 1 = rR at *
  generalize w.heap.size + 1 + 1 = rQ at *
  generalize w.heap.size + 1 = rP at *
  generalize hrC : w.heap.size = rC at *
  have lC := kC.lt
  have lP := kP.lt
  have lQ := kQ.lt
  have lR := kR.lt
  have p0 : W.cell? ⟨rP, 0, none⟩ = some (.int .i64 X1) := kP.cell 0
  have p1 : W.cell? ⟨rP, 1, none⟩ = some (.int .i64 Y1) := kP.cell 1
  have p2 : W.cell? ⟨rP, 2, none⟩ = some (.int .i64 E1) := kP.cell 2
  have q0 : W.cell? ⟨rQ, 0, none⟩ = some (.int .i64 X2) := kQ.cell 0
  have q1 : W.cell? ⟨rQ, 1, none⟩ = some (.int .i64 Y2) := kQ.cell 1
  have q2 : W.cell? ⟨rQ, 2, none⟩ = some (.int .i64 E2) := kQ.cell 2
  go_upto_region 5 with (fail)
  go_cut [31] from 175 (fun s wc => s = .bool false ∧ Below W.heap.size W wc)
  case first =>
    by_cases g1 : X1 = X2
    · by_cases g2 : Y1 = -Y2
      · have g3 : ¬ E1 = E2 := fun h => hno ⟨g1, g2, h⟩
        clear hno
        (refine wp_region_clq (by kernel_rfl) (by kernel_rfl) ?_; (repeat (go_big_quiet_step ((go_at_call 174; exact Calls.quiet_cls Closed.true _ (HOp.out _))))); refine wpQuiet_nil ?_; intro w8 hb8; obtain ⟨hc8, hf8⟩ := bcell hb8; have hz8 := hb8.size; (try simp only [World.size_alloc] at hz8))
        go_wp2
        go_meet
        case rel => exact ⟨rfl, hb8⟩
      · clear hno
        (refine wp_region_clq (by kernel_rfl) (by kernel_rfl) ?_; (repeat (go_big_quiet_step ((go_at_call 174; exact Calls.quiet_cls Closed.true _ (HOp.out _))))); refine wpQuiet_nil ?_; intro w8 hb8; obtain ⟨hc8, hf8⟩ := bcell hb8; have hz8 := hb8.size; (try simp only [World.size_alloc] at hz8))
        go_wp2
        go_meet
        case rel => exact ⟨rfl, hb8⟩
    · clear hno
      (refine wp_region_clq (by kernel_rfl) (by kernel_rfl) ?_; (repeat (go_big_quiet_step ((go_at_call 174; exact Calls.quiet_cls Closed.true _ (HOp.out _))))); refine wpQuiet_nil ?_; intro w8 hb8; obtain ⟨hc8, hf8⟩ := bcell hb8; have hz8 := hb8.size; (try simp only [World.size_alloc] at hz8))
      go_wp2
      go_meet
      case rel => exact ⟨rfl, hb8⟩
  case rest =>
    obtain ⟨rfl, hbc⟩ := hcut
    have bb := below_step hbc (by omega) hb0
    replace kC := kC.next hbc
    replace kP := kP.next hbc
    replace kQ := kQ.next hbc
    replace kR := kR.next hbc
    clear p0 p1 p2 q0 q1 q2 hbc hb0 hno HOp
    have hz := bb.size
    have p0 : (wc).cell? ⟨rP, 0, none⟩ = some (.int .i64 X1) := kP.cell 0
    have p1 : (wc).cell? ⟨rP, 1, none⟩ = some (.int .i64 Y1) := kP.cell 1
    have p2 : (wc).cell? ⟨rP, 2, none⟩ = some (.int .i64 E1) := kP.cell 2
    have q0 : (wc).cell? ⟨rQ, 0, none⟩ = some (.int .i64 X2) := kQ.cell 0
    have q1 : (wc).cell? ⟨rQ, 1, none⟩ = some (.int .i64 Y2) := kQ.cell 1
    have q2 : (wc).cell? ⟨rQ, 2, none⟩ = some (.int .i64 E2) := kQ.cell 2
    have c0 : wc.cell? ⟨rC, 0, none⟩ = some (.int .i64 A) := kC.cell 0
    have c1 : wc.cell? ⟨rC, 1, none⟩ = some (.int .i64 B) := kC.cell 1
    go_wp2_with fail
    refine (HSl.out _).mono ?_
    rintro e w1 ⟨rfl, hb1⟩
    replace bb := below_step hb1 (by omega) bb
    replace kC := kC.next hb1
    replace kP := kP.next hb1
    replace kQ := kQ.next hb1
    replace kR := kR.next hb1
    clear p0 p1 p2 q0 q1 q2 hb1
    replace hz := bb.size
    have p0 : (w1).cell? ⟨rP, 0, none⟩ = some (.int .i64 X1) := kP.cell 0
    have p1 : (w1).cell? ⟨rP, 1, none⟩ = some (.int .i64 Y1) := kP.cell 1
    have p2 : (w1).cell? ⟨rP, 2, none⟩ = some (.int .i64 E1) := kP.cell 2
    have q0 : (w1).cell? ⟨rQ, 0, none⟩ = some (.int .i64 X2) := kQ.cell 0
    have q1 : (w1).cell? ⟨rQ, 1, none⟩ = some (.int .i64 Y2) := kQ.cell 1
    have q2 : (w1).cell? ⟨rQ, 2, none⟩ = some (.int .i64 E2) := kQ.cell 2
    clear c0 c1 HSl
    go_wp2_with fail
    refine (HG.out _).mono ?_
    rintro e _ ⟨rfl, kk, rfl⟩
    have hb2 := below_drewN' w1 kk
    generalize w1.drewN kk = w2 at hb2 ⊢
    replace bb := below_step hb2 (by omega) bb
    replace kC := kC.next hb2
    replace kP := kP.next hb2
    replace kQ := kQ.next hb2
    replace kR := kR.next hb2
    clear p0 p1 p2 q0 q1 q2 hb2
    replace hz := bb.size
    have p0 : (w2).cell? ⟨rP, 0, none⟩ = some (.int .i64 X1) := kP.cell 0
    have p1 : (w2).cell? ⟨rP, 1, none⟩ = some (.int .i64 Y1) := kP.cell 1
    have p2 : (w2).cell? ⟨rP, 2, none⟩ = some (.int .i64 E1) := kP.cell 2
    have q0 : (w2).cell? ⟨rQ, 0, none⟩ = some (.int .i64 X2) := kQ.cell 0
    have q1 : (w2).cell? ⟨rQ, 1, none⟩ = some (.int .i64 Y2) := kQ.cell 1
    have q2 : (w2).cell? ⟨rQ, 2, none⟩ = some (.int .i64 E2) := kQ.cell 2
    clear HG
    have e1 : IntKind.i64.wrap (n0.tdiv d) = n := by rw [hN0.out, Go.IntWalk.i64_left]; rw [hN0.out] at hn; unfold wrap64; omega
    have e2 : IntKind.i64.wrap (m0.tdiv d) = m := by rw [hM0.out, Go.IntWalk.i64_left]; rw [hM0.out] at hm; unfold wrap64; omega
    have hd0 : (d == 0) = false := by simpa using hd
    clear hN0 hM0
    go_upto_region 9 with (fail)
    (refine wp_region_clq (by kernel_rfl) (by kernel_rfl) ?_; (repeat (go_big_quiet_step (fail))); refine wpQuiet_nil ?_; intro w9 hb9; obtain ⟨hc9, hf9⟩ := bcell hb9; have hz9 := hb9.size; (try simp only [World.size_alloc] at hz9))
    replace bb := below_step hb9 (by omega) bb
    replace kC := kC.next hb9
    replace kP := kP.next hb9
    replace kQ := kQ.next hb9
    replace kR := kR.next hb9
    clear p0 p1 p2 q0 q1 q2 hb9
    replace hz := bb.size
    have p0 : (w9).cell? ⟨rP, 0, none⟩ = some (.int .i64 X1) := kP.cell 0
    have p1 : (w9).cell? ⟨rP, 1, none⟩ = some (.int .i64 Y1) := kP.cell 1
    have p2 : (w9).cell? ⟨rP, 2, none⟩ = some (.int .i64 E1) := kP.cell 2
    have q0 : (w9).cell? ⟨rQ, 0, none⟩ = some (.int .i64 X2) := kQ.cell 0
    have q1 : (w9).cell? ⟨rQ, 1, none⟩ = some (.int .i64 Y2) := kQ.cell 1
    have q2 : (w9).cell? ⟨rQ, 2, none⟩ = some (.int .i64 E2) := kQ.cell 2
    clear e1 e2 hd0 hc9 hf9 hsb
    have lm : (dg m.natAbs).length ≤ 40000 := Nat.le_trans (dg_len (k := 5) (by omega)) (by omega)
    have ln : (dg n.natAbs).length ≤ 40000 := Nat.le_trans (dg_len (k := 5) (by omega)) (by omega)
    have mm := mulb (x := m) (y := m) 3200000000 3200000000 (by omega) (by omega)
    have nn := mulb (x := n) (y := n) 48000000000 48000000000 (by omega) (by omega)
    have lmm : (dg (m * m).natAbs).length ≤ 40000 := Nat.le_trans (dg_len (k := 5) (by omega)) (by omega)
    have lnn : (dg (n * n).natAbs).length ≤ 40000 := Nat.le_trans (dg_len (k := 6) (by omega)) (by omega)
    have ee1 := mulb (x := E1) (y := E1) 20 20 (by omega) (by omega)
    have ee2 := mulb (x := E1 * E1) (y := E2) 400 20 (by omega) (by omega)
    have ee3 := mulb (x := E1 * E1 * E2) (y := E2) 8000 20 (by omega) (by omega)
    have lee : (dg (E1 * E1 * E2 * E2).natAbs).length ≤ 40000 := Nat.le_trans (dg_len (k := 5) (by omega)) (by omega)
    have HWm := Lib.hid (fun W => c_wholeOf m (by omega) W)
    have HWe := Lib.hid (fun W => c_wholeOf (E1 * E1 * E2 * E2) (by omega) W)
    go_wp2_with fail
    refine (HWm.out _).mono ?_
    rintro e w10 ⟨u1, rfl, hu1, hb10⟩
    replace bb := below_step hb10 (by omega) bb
    replace kC := kC.next hb10
    replace kP := kP.next hb10
    replace kQ := kQ.next hb10
    replace kR := kR.next hb10
    clear p0 p1 p2 q0 q1 q2 hb10
    replace hz := bb.size
    have p0 : (w10).cell? ⟨rP, 0, none⟩ = some (.int .i64 X1) := kP.cell 0
    have p1 : (w10).cell? ⟨rP, 1, none⟩ = some (.int .i64 Y1) := kP.cell 1
    have p2 : (w10).cell? ⟨rP, 2, none⟩ = some (.int .i64 E1) := kP.cell 2
    have q0 : (w10).cell? ⟨rQ, 0, none⟩ = some (.int .i64 X2) := kQ.cell 0
    have q1 : (w10).cell? ⟨rQ, 1, none⟩ = some (.int .i64 Y2) := kQ.cell 1
    have q2 : (w10).cell? ⟨rQ, 2, none⟩ = some (.int .i64 E2) := kQ.cell 2
    go_wp2_with fail
    refine (HWm.out _).mono ?_
    rintro e w11 ⟨u2, rfl, hu2, hb11⟩
    replace hu1 : WhR m u1 w11 := hu1.rd.below hb11
    replace bb := below_step hb11 (by omega) bb
    replace kC := kC.next hb11
    replace kP := kP.next hb11
    replace kQ := kQ.next hb11
    replace kR := kR.next hb11
    clear p0 p1 p2 q0 q1 q2 hb11
    replace hz := bb.size
    have p0 : (w11).cell? ⟨rP, 0, none⟩ = some (.int .i64 X1) := kP.cell 0
    have p1 : (w11).cell? ⟨rP, 1, none⟩ = some (.int .i64 Y1) := kP.cell 1
    have p2 : (w11).cell? ⟨rP, 2, none⟩ = some (.int .i64 E1) := kP.cell 2
    have q0 : (w11).cell? ⟨rQ, 0, none⟩ = some (.int .i64 X2) := kQ.cell 0
    have q1 : (w11).cell? ⟨rQ, 1, none⟩ = some (.int .i64 Y2) := kQ.cell 1
    have q2 : (w11).cell? ⟨rQ, 2, none⟩ = some (.int .i64 E2) := kQ.cell 2
    go_wp2_with fail
    refine (c_mulWholes m m u1 u2 lm lm _ hu1 hu2.rd).mono ?_
    rintro e w12 ⟨u3, rfl, hu3, hb12⟩
    obtain ⟨lv, rfl, ho⟩ := hu3
    obtain ⟨sl, scap, rfl, -⟩ := id ho.1
    have x11 : WhB w12.heap.size (m * m) (w12.alloc (.cells #[.bool (decide (m * m < 0)), .slice sl (dg (m * m).natAbs).length scap] 164)) := ⟨_, Blk.new _ _ _, ho.1.below ((Below.refl _ _).alloc (Nat.le_refl _) _)⟩
    have hb13 : Below w11.heap.size w11 (w12.alloc (.cells #[.bool (decide (m * m < 0)), .slice sl (dg (m * m).natAbs).length scap] 164)) := hb12.alloc hb12.size _
    clear hu1 hu2 ho hb12
    go_upto_region 11 with (fail)
    generalize w12.alloc _ = W13 at x11 hb13 ⊢
    generalize w12.heap.size = r11 at x11 ⊢
    replace bb := below_step hb13 (by omega) bb
    replace kC := kC.next hb13
    replace kP := kP.next hb13
    replace kQ := kQ.next hb13
    replace kR := kR.next hb13
    clear p0 p1 p2 q0 q1 q2 hb13
    replace hz := bb.size
    have p0 : (W13).cell? ⟨rP, 0, none⟩ = some (.int .i64 X1) := kP.cell 0
    have p1 : (W13).cell? ⟨rP, 1, none⟩ = some (.int .i64 Y1) := kP.cell 1
    have p2 : (W13).cell? ⟨rP, 2, none⟩ = some (.int .i64 E1) := kP.cell 2
    have q0 : (W13).cell? ⟨rQ, 0, none⟩ = some (.int .i64 X2) := kQ.cell 0
    have q1 : (W13).cell? ⟨rQ, 1, none⟩ = some (.int .i64 Y2) := kQ.cell 1
    have q2 : (W13).cell? ⟨rQ, 2, none⟩ = some (.int .i64 E2) := kQ.cell 2
    go_wp2_with fail
    refine (HWe.out _).mono ?_
    rintro e w14 ⟨u4, rfl, hu4, hb14⟩
    obtain ⟨lv, rfl, ho⟩ := hu4
    obtain ⟨sl, scap, rfl, -⟩ := id ho.1
    have x12 : WhB w14.heap.size (E1 * E1 * E2 * E2) (w14.alloc (.cells #[.bool (decide (E1 * E1 * E2 * E2 < 0)), .slice sl (dg (E1 * E1 * E2 * E2).natAbs).length scap] 164)) := ⟨_, Blk.new _ _ _, ho.1.below ((Below.refl _ _).alloc (Nat.le_refl _) _)⟩
    have hb15 : Below W13.heap.size W13 (w14.alloc (.cells #[.bool (decide (E1 * E1 * E2 * E2 < 0)), .slice sl (dg (E1 * E1 * E2 * E2).natAbs).length scap] 164)) := hb14.alloc hb14.size _
    replace x11 := x11.next hb15
    clear ho hb14
    go_upto_region 12 with (fail)
    generalize w14.alloc _ = W14 at x11 x12 hb15 ⊢
    generalize w14.heap.size = r12 at x12 ⊢
    replace bb := below_step hb15 (by omega) bb
    replace kC := kC.next hb15
    replace kP := kP.next hb15
    replace kQ := kQ.next hb15
    replace kR := kR.next hb15
    clear p0 p1 p2 q0 q1 q2 hb15
    replace hz := bb.size
    have p0 : (W14).cell? ⟨rP, 0, none⟩ = some (.int .i64 X1) := kP.cell 0
    have p1 : (W14).cell? ⟨rP, 1, none⟩ = some (.int .i64 Y1) := kP.cell 1
    have p2 : (W14).cell? ⟨rP, 2, none⟩ = some (.int .i64 E1) := kP.cell 2
    have q0 : (W14).cell? ⟨rQ, 0, none⟩ = some (.int .i64 X2) := kQ.cell 0
    have q1 : (W14).cell? ⟨rQ, 1, none⟩ = some (.int .i64 Y2) := kQ.cell 1
    have q2 : (W14).cell? ⟨rQ, 2, none⟩ = some (.int .i64 E2) := kQ.cell 2
    have lP := kP.lt
    have lQ := kQ.lt
    have lR := kR.lt
    have lC := kC.lt
    have l11 : r11 < W14.heap.size := x11.lt
    have l12 : r12 < W14.heap.size := x12.lt
    go_cut [13] from 175 (fun s wc => ∃ r : Nat, s = .pointer (some ⟨r, 0, none⟩) ∧ W14.heap.size ≤ r ∧ WhB r (n * n * (E1 * E1 * E2 * E2)) wc ∧ Below W14.heap.size W14 wc)
    case first =>
      obtain ⟨lv12, k12, hr12⟩ := x12
      have y0 : W14.cell? ⟨r12, 0, none⟩ = some (.bool (decide (E1 * E1 * E2 * E2 < 0))) := k12.cell 0
      have y1 : W14.cell? ⟨r12, 1, none⟩ = some lv12 := k12.cell 1
      have HR12 : Hid (WhR (E1 * E1 * E2 * E2) (.agg #[.bool (decide (E1 * E1 * E2 * E2 < 0)), lv12]) W14) := ⟨_, rfl, hr12⟩
      refine wp_region_cls [] (fun _ => false) (fun _ => True) (fun w' => True) (by kernel_rfl) (trivial) ?_
      apply wpAnyF_hd ⟨W14.drew, (Over.refl _ _).drew, trivial⟩ [true, false, true, false, false, true] 6 (Closed.true) (fun _ _ => trivial) (by kernel_rfl) (by kernel_rfl) (by kernel_rfl) (by kernel_rfl) (by simp)
      · intro E hE hEN hEn; (repeat (first | (refine wpHL_take ?_; go_big_quiet_step (fail); refine wpQuiet_nil ?_) | refine wpHL_skip ?_)); exact wpHL_end rfl
      refine wpAnyF_ready [1, 7] 5 (by kernel_rfl) (by kernel_rfl) (by simp) ?_
      refine AllF.cons ?_ ?_
      · refine stepC_calle (some 71) (fun u1 w' => (Wh W14.heap.size n u1 w')) (by rfl) (by rfl) (by rfl) (fun _ => by go_simp) (fun u1 => Wh.closed _ _ _) (fun w' hO _ => (c_wholeOf n (by omega) w').mono fun e w2 ⟨v, h1, h2, h3⟩ => ⟨v, h1, .of_below h3, h2.le hO.size⟩) (fun u1 hne => ?_)
        simp only [Act.put, List.setIfInBounds_toArray, List.set_cons_succ, List.set_cons_zero]
        refine wpAnyF_ready [3, 7] 4 (by kernel_rfl) (by kernel_rfl) (by simp) ?_
        refine AllF.cons ?_ ?_
        · refine stepC_calle (some 73) (fun u2 w' => (Wh W14.heap.size n u1 w') ∧ (Wh W14.heap.size n u2 w')) (by rfl) (by rfl) (by rfl) (fun _ => by go_simp) (fun u2 => (Wh.closed _ _ _).and (Wh.closed _ _ _)) (fun w' hO hu1 => (c_wholeOf n (by omega) w').mono fun e w2 ⟨v, h1, h2, h3⟩ => ⟨v, h1, .of_below h3, ⟨(Wh.closed _ _ _) w' w2 hu1 h3, h2.le hO.size⟩⟩) (fun u2 hne => ?_)
          simp only [Act.put, List.setIfInBounds_toArray, List.set_cons_succ, List.set_cons_zero]
          refine wpAnyF_ready [4, 7] 3 (by kernel_rfl) (by kernel_rfl) (by simp) ?_
          refine AllF.cons ?_ ?_
          · refine stepC_calle (some 74) (fun u3 w' => (Wh W14.heap.size (n * n) u3 w')) (by rfl) (by rfl) (by rfl) (fun _ => by go_simp) (fun u3 => Wh.closed _ _ _) (fun w' hO ⟨hu1, hu2⟩ => (c_mulWholes n n _ _ ln ln w' hu1.rd hu2.rd).mono fun e w2 ⟨v, h1, h2, h3⟩ => ⟨v, h1, .of_below h3, h2.le hO.size⟩) (fun u3 hne => ?_)
            simp only [Act.put, List.setIfInBounds_toArray, List.set_cons_succ, List.set_cons_zero]
            refine wpAnyF_ready [6, 7] 2 (by kernel_rfl) (by kernel_rfl) (by simp) ?_
            refine AllF.cons ?_ ?_
            · refine stepC_calle (some 76) (fun u4 w' => (Wh W14.heap.size (n * n * (E1 * E1 * E2 * E2)) u4 w')) (by rfl) (by rfl) (by rfl) (fun _ => by go_simp) (fun u4 => Wh.closed _ _ _) (fun w' hO hu3 => (c_mulWholes (n * n) (E1 * E1 * E2 * E2) _ _ lnn lee w' hu3.rd (HR12.out.below0' hO.below)).mono fun e w2 ⟨v, h1, h2, h3⟩ => ⟨v, h1, .of_below h3, h2.le hO.size⟩) (fun u4 hne => ?_)
              simp only [Act.put, List.setIfInBounds_toArray, List.set_cons_succ, List.set_cons_zero]
              refine wpAnyF_ready [7] 1 (by kernel_rfl) (by kernel_rfl) (by simp) ?_
              refine AllF.cons ?_ ?_
              · refine stepC_val (some 13) (fun u w' => ∃ r13 : Nat, u = .pointer (some ⟨r13, 0, none⟩) ∧ W14.heap.size ≤ r13 ∧ (Wh W14.heap.size (n * n * (E1 * E1 * E2 * E2)) u4 w') ∧ (Blk r13 #[.bool false, .slice none 0 0] 164 w')) (by rfl) (by rfl) (by rfl) (fun _ w1 w2 ⟨r, h, q, d⟩ hb => ⟨r, h, q, ((Wh.closed _ _ _).and (Blk.closed _ _ _) : Closed _) w1 w2 d hb⟩) (fun w' hO hu4 => ⟨.pointer (some ⟨w'.heap.size, 0, none⟩), w'.alloc (.cells #[.bool false, .slice none 0 0] 164), (by go_simp), (Over.refl _ _).alloc _, ⟨w'.heap.size, rfl, hO.size, ⟨(Wh.closed _ _ _) w' _ hu4 ((Below.refl _ _).alloc (Nat.le_refl _) _), Blk.new _ _ _⟩⟩⟩) (fun u hne => ?_)
                simp only [Act.put, List.setIfInBounds_toArray, List.set_cons_succ, List.set_cons_zero]
                obtain ⟨w9, hO9, r13, rfl, hr, hd9⟩ := hne
                refine wpAnyF_weaken (D2 := fun w' => (Wh W14.heap.size (n * n * (E1 * E1 * E2 * E2)) u4 w') ∧ (Blk r13 #[.bool false, .slice none 0 0] 164 w')) (fun w' ⟨r', hr', _, d⟩ => by cases hr'; exact d) ?_
                have hne : ∃ w1, Over [] W14 w1 ∧ ((Wh W14.heap.size (n * n * (E1 * E1 * E2 * E2)) u4 w1) ∧ (Blk r13 #[.bool false, .slice none 0 0] 164 w1)) := ⟨w9, hO9, hd9⟩
                clear hO9 hd9
                refine wpAnyF_ready [8] 0 (by kernel_rfl) (by kernel_rfl) (by simp) (AllF.cons ?_ AllF.nil)
                obtain ⟨w8, _, hdd⟩ := id hne
                obtain ⟨lz, rfl, hoz⟩ : Wh W14.heap.size (n * n * (E1 * E1 * E2 * E2)) u4 w8 := by first | exact hdd.1 | exact hdd.2
                obtain ⟨sl, scap, rfl, _⟩ := id hoz.1
                clear hoz hdd
                refine stepC_store (v := .agg #[.bool (decide ((n * n * (E1 * E1 * E2 * E2)) < 0)), .slice sl (dg (n * n * (E1 * E1 * E2 * E2)).natAbs).length scap]) r13 #[.bool false, .slice none 0 0] (fun w' => Blk r13 #[.bool (decide ((n * n * (E1 * E1 * E2 * E2)) < 0)), .slice sl (dg (n * n * (E1 * E1 * E2 * E2)).natAbs).length scap] 164 w' ∧ RdL w' (.slice sl (dg (n * n * (E1 * E1 * E2 * E2)).natAbs).length scap) (dg (n * n * (E1 * E1 * E2 * E2)).natAbs)) (by rfl) (by rfl) (by rfl) (by rfl) (by rfl) (by rfl) (fun _ => by go_simp) (by rfl) (by simp [Value.cells, one1]) (.inl hr) (fun _ ⟨hu4, hBr⟩ => hBr) ((Blk.closed _ _ _).and (fun _ _ h hb => h.below hb)) (fun _ _ ⟨hu4, hBr⟩ ho hb => ⟨hb, (hu4.rdO.1).overNew hBr ho⟩) (fun hne => ?_)
                try simp only [Value.cells]
                refine wpAnyF_done (by kernel_rfl) (fun Wz hOz hDz => NoPanic.normal ?_) _
                try dsimp only
                go_wp2
                go_meet
                case rel => exact ⟨_, rfl, hr, ⟨_, hDz.1, hDz.2⟩, hOz.below⟩
              exact AllF.nil
            refine AllF.cons ?_ ?_
            · refine stepC_val (some 13) (fun u w' => ∃ r13 : Nat, u = .pointer (some ⟨r13, 0, none⟩) ∧ W14.heap.size ≤ r13 ∧ (Wh W14.heap.size (n * n) u3 w') ∧ (Blk r13 #[.bool false, .slice none 0 0] 164 w')) (by rfl) (by rfl) (by rfl) (fun _ w1 w2 ⟨r, h, q, d⟩ hb => ⟨r, h, q, ((Wh.closed _ _ _).and (Blk.closed _ _ _) : Closed _) w1 w2 d hb⟩) (fun w' hO hu3 => ⟨.pointer (some ⟨w'.heap.size, 0, none⟩), w'.alloc (.cells #[.bool false, .slice none 0 0] 164), (by go_simp), (Over.refl _ _).alloc _, ⟨w'.heap.size, rfl, hO.size, ⟨(Wh.closed _ _ _) w' _ hu3 ((Below.refl _ _).alloc (Nat.le_refl _) _), Blk.new _ _ _⟩⟩⟩) (fun u hne => ?_)
              simp only [Act.put, List.setIfInBounds_toArray, List.set_cons_succ, List.set_cons_zero]
              obtain ⟨w9, hO9, r13, rfl, hr, hd9⟩ := hne
              refine wpAnyF_weaken (D2 := fun w' => (Wh W14.heap.size (n * n) u3 w') ∧ (Blk r13 #[.bool false, .slice none 0 0] 164 w')) (fun w' ⟨r', hr', _, d⟩ => by cases hr'; exact d) ?_
              have hne : ∃ w1, Over [] W14 w1 ∧ ((Wh W14.heap.size (n * n) u3 w1) ∧ (Blk r13 #[.bool false, .slice none 0 0] 164 w1)) := ⟨w9, hO9, hd9⟩
              clear hO9 hd9
              refine wpAnyF_ready [6] 1 (by kernel_rfl) (by kernel_rfl) (by simp) ?_
              refine AllF.cons ?_ ?_
              · refine stepC_calle (some 76) (fun u4 w' => (Blk r13 #[.bool false, .slice none 0 0] 164 w') ∧ (Wh W14.heap.size (n * n * (E1 * E1 * E2 * E2)) u4 w')) (by rfl) (by rfl) (by rfl) (fun _ => by go_simp) (fun u4 => (Blk.closed _ _ _).and (Wh.closed _ _ _)) (fun w' hO ⟨hu3, hBr⟩ => (c_mulWholes (n * n) (E1 * E1 * E2 * E2) _ _ lnn lee w' hu3.rd (HR12.out.below0' hO.below)).mono fun e w2 ⟨v, h1, h2, h3⟩ => ⟨v, h1, .of_below h3, ⟨(Blk.closed _ _ _) w' w2 hBr h3, h2.le hO.size⟩⟩) (fun u4 hne => ?_)
                simp only [Act.put, List.setIfInBounds_toArray, List.set_cons_succ, List.set_cons_zero]
                refine wpAnyF_ready [8] 0 (by kernel_rfl) (by kernel_rfl) (by simp) (AllF.cons ?_ AllF.nil)
                obtain ⟨w8, _, hdd⟩ := id hne
                obtain ⟨lz, rfl, hoz⟩ : Wh W14.heap.size (n * n * (E1 * E1 * E2 * E2)) u4 w8 := by first | exact hdd.1 | exact hdd.2
                obtain ⟨sl, scap, rfl, _⟩ := id hoz.1
                clear hoz hdd
                refine stepC_store (v := .agg #[.bool (decide ((n * n * (E1 * E1 * E2 * E2)) < 0)), .slice sl (dg (n * n * (E1 * E1 * E2 * E2)).natAbs).length scap]) r13 #[.bool false, .slice none 0 0] (fun w' => Blk r13 #[.bool (decide ((n * n * (E1 * E1 * E2 * E2)) < 0)), .slice sl (dg (n * n * (E1 * E1 * E2 * E2)).natAbs).length scap] 164 w' ∧ RdL w' (.slice sl (dg (n * n * (E1 * E1 * E2 * E2)).natAbs).length scap) (dg (n * n * (E1 * E1 * E2 * E2)).natAbs)) (by rfl) (by rfl) (by rfl) (by rfl) (by rfl) (by rfl) (fun _ => by go_simp) (by rfl) (by simp [Value.cells, one1]) (.inl hr) (fun _ ⟨hBr, hu4⟩ => hBr) ((Blk.closed _ _ _).and (fun _ _ h hb => h.below hb)) (fun _ _ ⟨hBr, hu4⟩ ho hb => ⟨hb, (hu4.rdO.1).overNew hBr ho⟩) (fun hne => ?_)
                try simp only [Value.cells]
                refine wpAnyF_done (by kernel_rfl) (fun Wz hOz hDz => NoPanic.normal ?_) _
                try dsimp only
                go_wp2
                go_meet
                case rel => exact ⟨_, rfl, hr, ⟨_, hDz.1, hDz.2⟩, hOz.below⟩
              exact AllF.nil
            exact AllF.nil
          refine AllF.cons ?_ ?_
          · refine stepC_val (some 13) (fun u w' => ∃ r13 : Nat, u = .pointer (some ⟨r13, 0, none⟩) ∧ W14.heap.size ≤ r13 ∧ (Wh W14.heap.size n u1 w') ∧ (Wh W14.heap.size n u2 w') ∧ (Blk r13 #[.bool false, .slice none 0 0] 164 w')) (by rfl) (by rfl) (by rfl) (fun _ w1 w2 ⟨r, h, q, d⟩ hb => ⟨r, h, q, ((Wh.closed _ _ _).and ((Wh.closed _ _ _).and (Blk.closed _ _ _)) : Closed _) w1 w2 d hb⟩) (fun w' hO ⟨hu1, hu2⟩ => ⟨.pointer (some ⟨w'.heap.size, 0, none⟩), w'.alloc (.cells #[.bool false, .slice none 0 0] 164), (by go_simp), (Over.refl _ _).alloc _, ⟨w'.heap.size, rfl, hO.size, ⟨(Wh.closed _ _ _) w' _ hu1 ((Below.refl _ _).alloc (Nat.le_refl _) _), (Wh.closed _ _ _) w' _ hu2 ((Below.refl _ _).alloc (Nat.le_refl _) _), Blk.new _ _ _⟩⟩⟩) (fun u hne => ?_)
            simp only [Act.put, List.setIfInBounds_toArray, List.set_cons_succ, List.set_cons_zero]
            obtain ⟨w9, hO9, r13, rfl, hr, hd9⟩ := hne
            refine wpAnyF_weaken (D2 := fun w' => (Wh W14.heap.size n u1 w') ∧ (Wh W14.heap.size n u2 w') ∧ (Blk r13 #[.bool false, .slice none 0 0] 164 w')) (fun w' ⟨r', hr', _, d⟩ => by cases hr'; exact d) ?_
            have hne : ∃ w1, Over [] W14 w1 ∧ ((Wh W14.heap.size n u1 w1) ∧ (Wh W14.heap.size n u2 w1) ∧ (Blk r13 #[.bool false, .slice none 0 0] 164 w1)) := ⟨w9, hO9, hd9⟩
            clear hO9 hd9
            refine wpAnyF_ready [4] 2 (by kernel_rfl) (by kernel_rfl) (by simp) ?_
            refine AllF.cons ?_ ?_
            · refine stepC_calle (some 74) (fun u3 w' => (Blk r13 #[.bool false, .slice none 0 0] 164 w') ∧ (Wh W14.heap.size (n * n) u3 w')) (by rfl) (by rfl) (by rfl) (fun _ => by go_simp) (fun u3 => (Blk.closed _ _ _).and (Wh.closed _ _ _)) (fun w' hO ⟨hu1, hu2, hBr⟩ => (c_mulWholes n n _ _ ln ln w' hu1.rd hu2.rd).mono fun e w2 ⟨v, h1, h2, h3⟩ => ⟨v, h1, .of_below h3, ⟨(Blk.closed _ _ _) w' w2 hBr h3, h2.le hO.size⟩⟩) (fun u3 hne => ?_)
              simp only [Act.put, List.setIfInBounds_toArray, List.set_cons_succ, List.set_cons_zero]
              refine wpAnyF_ready [6] 1 (by kernel_rfl) (by kernel_rfl) (by simp) ?_
              refine AllF.cons ?_ ?_
              · refine stepC_calle (some 76) (fun u4 w' => (Blk r13 #[.bool false, .slice none 0 0] 164 w') ∧ (Wh W14.heap.size (n * n * (E1 * E1 * E2 * E2)) u4 w')) (by rfl) (by rfl) (by rfl) (fun _ => by go_simp) (fun u4 => (Blk.closed _ _ _).and (Wh.closed _ _ _)) (fun w' hO ⟨hBr, hu3⟩ => (c_mulWholes (n * n) (E1 * E1 * E2 * E2) _ _ lnn lee w' hu3.rd (HR12.out.below0' hO.below)).mono fun e w2 ⟨v, h1, h2, h3⟩ => ⟨v, h1, .of_below h3, ⟨(Blk.closed _ _ _) w' w2 hBr h3, h2.le hO.size⟩⟩) (fun u4 hne => ?_)
                simp only [Act.put, List.setIfInBounds_toArray, List.set_cons_succ, List.set_cons_zero]
                refine wpAnyF_ready [8] 0 (by kernel_rfl) (by kernel_rfl) (by simp) (AllF.cons ?_ AllF.nil)
                obtain ⟨w8, _, hdd⟩ := id hne
                obtain ⟨lz, rfl, hoz⟩ : Wh W14.heap.size (n * n * (E1 * E1 * E2 * E2)) u4 w8 := by first | exact hdd.1 | exact hdd.2
                obtain ⟨sl, scap, rfl, _⟩ := id hoz.1
                clear hoz hdd
                refine stepC_store (v := .agg #[.bool (decide ((n * n * (E1 * E1 * E2 * E2)) < 0)), .slice sl (dg (n * n * (E1 * E1 * E2 * E2)).natAbs).length scap]) r13 #[.bool false, .slice none 0 0] (fun w' => Blk r13 #[.bool (decide ((n * n * (E1 * E1 * E2 * E2)) < 0)), .slice sl (dg (n * n * (E1 * E1 * E2 * E2)).natAbs).length scap] 164 w' ∧ RdL w' (.slice sl (dg (n * n * (E1 * E1 * E2 * E2)).natAbs).length scap) (dg (n * n * (E1 * E1 * E2 * E2)).natAbs)) (by rfl) (by rfl) (by rfl) (by rfl) (by rfl) (by rfl) (fun _ => by go_simp) (by rfl) (by simp [Value.cells, one1]) (.inl hr) (fun _ ⟨hBr, hu4⟩ => hBr) ((Blk.closed _ _ _).and (fun _ _ h hb => h.below hb)) (fun _ _ ⟨hBr, hu4⟩ ho hb => ⟨hb, (hu4.rdO.1).overNew hBr ho⟩) (fun hne => ?_)
                try simp only [Value.cells]
                refine wpAnyF_done (by kernel_rfl) (fun Wz hOz hDz => NoPanic.normal ?_) _
                try dsimp only
                go_wp2
                go_meet
                case rel => exact ⟨_, rfl, hr, ⟨_, hDz.1, hDz.2⟩, hOz.below⟩
              exact AllF.nil
            exact AllF.nil
          exact AllF.nil
        refine AllF.cons ?_ ?_
        · refine stepC_val (some 13) (fun u w' => ∃ r13 : Nat, u = .pointer (some ⟨r13, 0, none⟩) ∧ W14.heap.size ≤ r13 ∧ (Wh W14.heap.size n u1 w') ∧ (Blk r13 #[.bool false, .slice none 0 0] 164 w')) (by rfl) (by rfl) (by rfl) (fun _ w1 w2 ⟨r, h, q, d⟩ hb => ⟨r, h, q, ((Wh.closed _ _ _).and (Blk.closed _ _ _) : Closed _) w1 w2 d hb⟩) (fun w' hO hu1 => ⟨.pointer (some ⟨w'.heap.size, 0, none⟩), w'.alloc (.cells #[.bool false, .slice none 0 0] 164), (by go_simp), (Over.refl _ _).alloc _, ⟨w'.heap.size, rfl, hO.size, ⟨(Wh.closed _ _ _) w' _ hu1 ((Below.refl _ _).alloc (Nat.le_refl _) _), Blk.new _ _ _⟩⟩⟩) (fun u hne => ?_)
          simp only [Act.put, List.setIfInBounds_toArray, List.set_cons_succ, List.set_cons_zero]
          obtain ⟨w9, hO9, r13, rfl, hr, hd9⟩ := hne
          refine wpAnyF_weaken (D2 := fun w' => (Wh W14.heap.size n u1 w') ∧ (Blk r13 #[.bool false, .slice none 0 0] 164 w')) (fun w' ⟨r', hr', _, d⟩ => by cases hr'; exact d) ?_
          have hne : ∃ w1, Over [] W14 w1 ∧ ((Wh W14.heap.size n u1 w1) ∧ (Blk r13 #[.bool false, .slice none 0 0] 164 w1)) := ⟨w9, hO9, hd9⟩
          clear hO9 hd9
          refine wpAnyF_ready [3] 3 (by kernel_rfl) (by kernel_rfl) (by simp) ?_
          refine AllF.cons ?_ ?_
          · refine stepC_calle (some 73) (fun u2 w' => (Wh W14.heap.size n u1 w') ∧ (Blk r13 #[.bool false, .slice none 0 0] 164 w') ∧ (Wh W14.heap.size n u2 w')) (by rfl) (by rfl) (by rfl) (fun _ => by go_simp) (fun u2 => (Wh.closed _ _ _).and ((Blk.closed _ _ _).and (Wh.closed _ _ _))) (fun w' hO ⟨hu1, hBr⟩ => (c_wholeOf n (by omega) w').mono fun e w2 ⟨v, h1, h2, h3⟩ => ⟨v, h1, .of_below h3, ⟨(Wh.closed _ _ _) w' w2 hu1 h3, (Blk.closed _ _ _) w' w2 hBr h3, h2.le hO.size⟩⟩) (fun u2 hne => ?_)
            simp only [Act.put, List.setIfInBounds_toArray, List.set_cons_succ, List.set_cons_zero]
            refine wpAnyF_ready [4] 2 (by kernel_rfl) (by kernel_rfl) (by simp) ?_
            refine AllF.cons ?_ ?_
            · refine stepC_calle (some 74) (fun u3 w' => (Blk r13 #[.bool false, .slice none 0 0] 164 w') ∧ (Wh W14.heap.size (n * n) u3 w')) (by rfl) (by rfl) (by rfl) (fun _ => by go_simp) (fun u3 => (Blk.closed _ _ _).and (Wh.closed _ _ _)) (fun w' hO ⟨hu1, hBr, hu2⟩ => (c_mulWholes n n _ _ ln ln w' hu1.rd hu2.rd).mono fun e w2 ⟨v, h1, h2, h3⟩ => ⟨v, h1, .of_below h3, ⟨(Blk.closed _ _ _) w' w2 hBr h3, h2.le hO.size⟩⟩) (fun u3 hne => ?_)
              simp only [Act.put, List.setIfInBounds_toArray, List.set_cons_succ, List.set_cons_zero]
              refine wpAnyF_ready [6] 1 (by kernel_rfl) (by kernel_rfl) (by simp) ?_
              refine AllF.cons ?_ ?_
              · refine stepC_calle (some 76) (fun u4 w' => (Blk r13 #[.bool false, .slice none 0 0] 164 w') ∧ (Wh W14.heap.size (n * n * (E1 * E1 * E2 * E2)) u4 w')) (by rfl) (by rfl) (by rfl) (fun _ => by go_simp) (fun u4 => (Blk.closed _ _ _).and (Wh.closed _ _ _)) (fun w' hO ⟨hBr, hu3⟩ => (c_mulWholes (n * n) (E1 * E1 * E2 * E2) _ _ lnn lee w' hu3.rd (HR12.out.below0' hO.below)).mono fun e w2 ⟨v, h1, h2, h3⟩ => ⟨v, h1, .of_below h3, ⟨(Blk.closed _ _ _) w' w2 hBr h3, h2.le hO.size⟩⟩) (fun u4 hne => ?_)
                simp only [Act.put, List.setIfInBounds_toArray, List.set_cons_succ, List.set_cons_zero]
                refine wpAnyF_ready [8] 0 (by kernel_rfl) (by kernel_rfl) (by simp) (AllF.cons ?_ AllF.nil)
                obtain ⟨w8, _, hdd⟩ := id hne
                obtain ⟨lz, rfl, hoz⟩ : Wh W14.heap.size (n * n * (E1 * E1 * E2 * E2)) u4 w8 := by first | exact hdd.1 | exact hdd.2
                obtain ⟨sl, scap, rfl, _⟩ := id hoz.1
                clear hoz hdd
                refine stepC_store (v := .agg #[.bool (decide ((n * n * (E1 * E1 * E2 * E2)) < 0)), .slice sl (dg (n * n * (E1 * E1 * E2 * E2)).natAbs).length scap]) r13 #[.bool false, .slice none 0 0] (fun w' => Blk r13 #[.bool (decide ((n * n * (E1 * E1 * E2 * E2)) < 0)), .slice sl (dg (n * n * (E1 * E1 * E2 * E2)).natAbs).length scap] 164 w' ∧ RdL w' (.slice sl (dg (n * n * (E1 * E1 * E2 * E2)).natAbs).length scap) (dg (n * n * (E1 * E1 * E2 * E2)).natAbs)) (by rfl) (by rfl) (by rfl) (by rfl) (by rfl) (by rfl) (fun _ => by go_simp) (by rfl) (by simp [Value.cells, one1]) (.inl hr) (fun _ ⟨hBr, hu4⟩ => hBr) ((Blk.closed _ _ _).and (fun _ _ h hb => h.below hb)) (fun _ _ ⟨hBr, hu4⟩ ho hb => ⟨hb, (hu4.rdO.1).overNew hBr ho⟩) (fun hne => ?_)
                try simp only [Value.cells]
                refine wpAnyF_done (by kernel_rfl) (fun Wz hOz hDz => NoPanic.normal ?_) _
                try dsimp only
                go_wp2
                go_meet
                case rel => exact ⟨_, rfl, hr, ⟨_, hDz.1, hDz.2⟩, hOz.below⟩
              exact AllF.nil
            exact AllF.nil
          exact AllF.nil
        exact AllF.nil
      refine AllF.cons ?_ ?_
      · refine stepC_val (some 13) (fun u w' => ∃ r13 : Nat, u = .pointer (some ⟨r13, 0, none⟩) ∧ W14.heap.size ≤ r13 ∧ (Blk r13 #[.bool false, .slice none 0 0] 164 w')) (by rfl) (by rfl) (by rfl) (fun _ w1 w2 ⟨r, h, q, d⟩ hb => ⟨r, h, q, (Blk.closed _ _ _ : Closed _) w1 w2 d hb⟩) (fun w' hO hD => ⟨.pointer (some ⟨w'.heap.size, 0, none⟩), w'.alloc (.cells #[.bool false, .slice none 0 0] 164), (by go_simp), (Over.refl _ _).alloc _, ⟨w'.heap.size, rfl, hO.size, Blk.new _ _ _⟩⟩) (fun u hne => ?_)
        simp only [Act.put, List.setIfInBounds_toArray, List.set_cons_succ, List.set_cons_zero]
        obtain ⟨w9, hO9, r13, rfl, hr, hd9⟩ := hne
        refine wpAnyF_weaken (D2 := fun w' => (Blk r13 #[.bool false, .slice none 0 0] 164 w')) (fun w' ⟨r', hr', _, d⟩ => by cases hr'; exact d) ?_
        have hne : ∃ w1, Over [] W14 w1 ∧ ((Blk r13 #[.bool false, .slice none 0 0] 164 w1)) := ⟨w9, hO9, hd9⟩
        clear hO9 hd9
        refine wpAnyF_ready [1] 4 (by kernel_rfl) (by kernel_rfl) (by simp) ?_
        refine AllF.cons ?_ ?_
        · refine stepC_calle (some 71) (fun u1 w' => (Blk r13 #[.bool false, .slice none 0 0] 164 w') ∧ (Wh W14.heap.size n u1 w')) (by rfl) (by rfl) (by rfl) (fun _ => by go_simp) (fun u1 => (Blk.closed _ _ _).and (Wh.closed _ _ _)) (fun w' hO hBr => (c_wholeOf n (by omega) w').mono fun e w2 ⟨v, h1, h2, h3⟩ => ⟨v, h1, .of_below h3, ⟨(Blk.closed _ _ _) w' w2 hBr h3, h2.le hO.size⟩⟩) (fun u1 hne => ?_)
          simp only [Act.put, List.setIfInBounds_toArray, List.set_cons_succ, List.set_cons_zero]
          refine wpAnyF_ready [3] 3 (by kernel_rfl) (by kernel_rfl) (by simp) ?_
          refine AllF.cons ?_ ?_
          · refine stepC_calle (some 73) (fun u2 w' => (Blk r13 #[.bool false, .slice none 0 0] 164 w') ∧ (Wh W14.heap.size n u1 w') ∧ (Wh W14.heap.size n u2 w')) (by rfl) (by rfl) (by rfl) (fun _ => by go_simp) (fun u2 => (Blk.closed _ _ _).and ((Wh.closed _ _ _).and (Wh.closed _ _ _))) (fun w' hO ⟨hBr, hu1⟩ => (c_wholeOf n (by omega) w').mono fun e w2 ⟨v, h1, h2, h3⟩ => ⟨v, h1, .of_below h3, ⟨(Blk.closed _ _ _) w' w2 hBr h3, (Wh.closed _ _ _) w' w2 hu1 h3, h2.le hO.size⟩⟩) (fun u2 hne => ?_)
            simp only [Act.put, List.setIfInBounds_toArray, List.set_cons_succ, List.set_cons_zero]
            refine wpAnyF_ready [4] 2 (by kernel_rfl) (by kernel_rfl) (by simp) ?_
            refine AllF.cons ?_ ?_
            · refine stepC_calle (some 74) (fun u3 w' => (Blk r13 #[.bool false, .slice none 0 0] 164 w') ∧ (Wh W14.heap.size (n * n) u3 w')) (by rfl) (by rfl) (by rfl) (fun _ => by go_simp) (fun u3 => (Blk.closed _ _ _).and (Wh.closed _ _ _)) (fun w' hO ⟨hBr, hu1, hu2⟩ => (c_mulWholes n n _ _ ln ln w' hu1.rd hu2.rd).mono fun e w2 ⟨v, h1, h2, h3⟩ => ⟨v, h1, .of_below h3, ⟨(Blk.closed _ _ _) w' w2 hBr h3, h2.le hO.size⟩⟩) (fun u3 hne => ?_)
              simp only [Act.put, List.setIfInBounds_toArray, List.set_cons_succ, List.set_cons_zero]
              refine wpAnyF_ready [6] 1 (by kernel_rfl) (by kernel_rfl) (by simp) ?_
              refine AllF.cons ?_ ?_
              · refine stepC_calle (some 76) (fun u4 w' => (Blk r13 #[.bool false, .slice none 0 0] 164 w') ∧ (Wh W14.heap.size (n * n * (E1 * E1 * E2 * E2)) u4 w')) (by rfl) (by rfl) (by rfl) (fun _ => by go_simp) (fun u4 => (Blk.closed _ _ _).and (Wh.closed _ _ _)) (fun w' hO ⟨hBr, hu3⟩ => (c_mulWholes (n * n) (E1 * E1 * E2 * E2) _ _ lnn lee w' hu3.rd (HR12.out.below0' hO.below)).mono fun e w2 ⟨v, h1, h2, h3⟩ => ⟨v, h1, .of_below h3, ⟨(Blk.closed _ _ _) w' w2 hBr h3, h2.le hO.size⟩⟩) (fun u4 hne => ?_)
                simp only [Act.put, List.setIfInBounds_toArray, List.set_cons_succ, List.set_cons_zero]
                refine wpAnyF_ready [8] 0 (by kernel_rfl) (by kernel_rfl) (by simp) (AllF.cons ?_ AllF.nil)
                obtain ⟨w8, _, hdd⟩ := id hne
                obtain ⟨lz, rfl, hoz⟩ : Wh W14.heap.size (n * n * (E1 * E1 * E2 * E2)) u4 w8 := by first | exact hdd.1 | exact hdd.2
                obtain ⟨sl, scap, rfl, _⟩ := id hoz.1
                clear hoz hdd
                refine stepC_store (v := .agg #[.bool (decide ((n * n * (E1 * E1 * E2 * E2)) < 0)), .slice sl (dg (n * n * (E1 * E1 * E2 * E2)).natAbs).length scap]) r13 #[.bool false, .slice none 0 0] (fun w' => Blk r13 #[.bool (decide ((n * n * (E1 * E1 * E2 * E2)) < 0)), .slice sl (dg (n * n * (E1 * E1 * E2 * E2)).natAbs).length scap] 164 w' ∧ RdL w' (.slice sl (dg (n * n * (E1 * E1 * E2 * E2)).natAbs).length scap) (dg (n * n * (E1 * E1 * E2 * E2)).natAbs)) (by rfl) (by rfl) (by rfl) (by rfl) (by rfl) (by rfl) (fun _ => by go_simp) (by rfl) (by simp [Value.cells, one1]) (.inl hr) (fun _ ⟨hBr, hu4⟩ => hBr) ((Blk.closed _ _ _).and (fun _ _ h hb => h.below hb)) (fun _ _ ⟨hBr, hu4⟩ ho hb => ⟨hb, (hu4.rdO.1).overNew hBr ho⟩) (fun hne => ?_)
                try simp only [Value.cells]
                refine wpAnyF_done (by kernel_rfl) (fun Wz hOz hDz => NoPanic.normal ?_) _
                try dsimp only
                go_wp2
                go_meet
                case rel => exact ⟨_, rfl, hr, ⟨_, hDz.1, hDz.2⟩, hOz.below⟩
              exact AllF.nil
            exact AllF.nil
          exact AllF.nil
        exact AllF.nil
      exact AllF.nil
    case rest =>
      obtain ⟨r13, rfl, hr13, x13, hb16⟩ := hcut
      have hb16' := Lib.hid hb16
      have hz16 := hb16.size
      replace bb := below_step hb16 (by omega) bb
      replace kC := kC.next hb16
      replace kP := kP.next hb16
      replace kQ := kQ.next hb16
      replace kR := kR.next hb16
      clear p0 p1 p2 q0 q1 q2 hb16
      replace hz := bb.size
      have p0 : (wc).cell? ⟨rP, 0, none⟩ = some (.int .i64 X1) := kP.cell 0
      have p1 : (wc).cell? ⟨rP, 1, none⟩ = some (.int .i64 Y1) := kP.cell 1
      have p2 : (wc).cell? ⟨rP, 2, none⟩ = some (.int .i64 E1) := kP.cell 2
      have q0 : (wc).cell? ⟨rQ, 0, none⟩ = some (.int .i64 X2) := kQ.cell 0
      have q1 : (wc).cell? ⟨rQ, 1, none⟩ = some (.int .i64 Y2) := kQ.cell 1
      have q2 : (wc).cell? ⟨rQ, 2, none⟩ = some (.int .i64 E2) := kQ.cell 2
      obtain ⟨lv13, k13, hr13'⟩ := x13
      obtain ⟨s13, cap13, rfl, -⟩ := id hr13'
      obtain ⟨lv11, k11, hr11⟩ := id x11
      have z0 : wc.cell? ⟨r13, 0, none⟩ = some (.bool (decide (n * n * (E1 * E1 * E2 * E2) < 0))) := k13.cell 0
      have z1 : wc.cell? ⟨r13, 1, none⟩ = some (.slice s13 (dg (n * n * (E1 * E1 * E2 * E2)).natAbs).length cap13) := k13.cell 1
      have y0 : wc.cell? ⟨r11, 0, none⟩ = some (.bool (decide (m * m < 0))) := (k11.next hb16'.out).cell 0
      have y1 : wc.cell? ⟨r11, 1, none⟩ = some lv11 := (k11.next hb16'.out).cell 1
      have l13 := k13.lt
      obtain ⟨s1, s2, _, _⟩ := cub_bd 10000 (x := X1) (e := E2) (by omega) hE2
      obtain ⟨s3, s4, _, _⟩ := cub_bd 10000 (x := X2) (e := E1) (by omega) hE1
      have lS : (dg (X1 * E2 * E2 + X2 * E1 * E1).natAbs).length ≤ 40000 := Nat.le_trans (dg_len (k := 5) (by omega)) (by omega)
      have HR11 : Hid (WhR (m * m) (.agg #[.bool (decide (m * m < 0)), lv11]) W14) := ⟨_, rfl, hr11⟩
      have HR13 : Hid (∀ w', Over [r13] wc w' → WhR (n * n * (E1 * E1 * E2 * E2)) (.agg #[.bool (decide (n * n * (E1 * E1 * E2 * E2) < 0)), .slice s13 (dg (n * n * (E1 * E1 * E2 * E2)).natAbs).length cap13]) w') := Lib.hid (fun w' ho => ⟨_, rfl, hr13'.overSlot k13 ho⟩)
      have v1 := mulb (x := m * m) (y := X1 * E2 * E2 + X2 * E1 * E1) 10240000000000000000 8000000 (by omega) (by omega)
      have v2 := mulb (x := n * n) (y := E1 * E1 * E2 * E2) 2304000000000000000000 160000 (by omega) (by omega)
      have lv1 : (dg (m * m * (X1 * E2 * E2 + X2 * E1 * E1)).natAbs).length ≤ 100000 := Nat.le_trans (dg_len (k := 8) (by omega)) (by omega)
      have lv1' : (dg (-(m * m * (X1 * E2 * E2 + X2 * E1 * E1))).natAbs).length ≤ 100000 := by rw [Int.natAbs_neg]; exact lv1
      have lv2 : (dg (n * n * (E1 * E1 * E2 * E2)).natAbs).length ≤ 100000 := Nat.le_trans (dg_len (k := 8) (by omega)) (by omega)
      have hn1 : rP ∉ [r13] := by simp; omega
      have hn2 : rQ ∉ [r13] := by simp; omega
      have hn3 : r11 ∉ [r13] := by simp; omega
      have hn4 : r13 ∈ [r13] := by simp
      have l11' : r11 < wc.heap.size := by omega
      have lP' : rP < wc.heap.size := by omega
      have lQ' : rQ < wc.heap.size := by omega
      go_upto_region 13 with (fail)
      go_cut [] from 175 (fun wd => WhB r13 (adT n m X1 E1 X2 E2) wd ∧ Over [r13] wc wd)
      case first =>
        refine wp_region_cls [r13] (fun _ => false) (fun _ => True) (fun w' => (Blk r13 #[.bool (decide ((n * n * (E1 * E1 * E2 * E2)) < 0)), .slice s13 (dg (n * n * (E1 * E1 * E2 * E2)).natAbs).length cap13] 164 w')) (by kernel_rfl) (k13) ?_
        apply wpAnyF_hd ⟨wc.drew, (Over.refl _ _).drew, k13⟩ [false, true, true, true, true, true, true, true, true, true, true, true, true, true, true, true, true, true, true] 6 (Blk.closed _ _ _) (fun _ _ => trivial) (by kernel_rfl) (by kernel_rfl) (by kernel_rfl) (by kernel_rfl) (by simp)
        · intro E hE hEN hEn; (repeat (first | (refine wpHL_take ?_; go_big_quiet_step (fail); refine wpQuiet_nil ?_) | refine wpHL_skip ?_)); exact wpHL_end rfl
        refine wpAnyF_ready [0, 19] 5 (by kernel_rfl) (by kernel_rfl) (by simp) ?_
        refine AllF.cons ?_ ?_
        · refine stepC_val (some 77) (fun u w' => u = .agg #[.bool (decide ((n * n * (E1 * E1 * E2 * E2)) < 0)), .slice s13 (dg (n * n * (E1 * E1 * E2 * E2)).natAbs).length cap13] ∧ (Blk r13 #[.bool (decide ((n * n * (E1 * E1 * E2 * E2)) < 0)), .slice s13 (dg (n * n * (E1 * E1 * E2 * E2)).natAbs).length cap13] 164 w')) (by rfl) (by rfl) (by rfl) (fun _ w1 w2 ⟨h, d⟩ hb => ⟨h, (Blk.closed _ _ _ : Closed _) w1 w2 d hb⟩) (fun w' hO hBr => ⟨.agg #[.bool (decide ((n * n * (E1 * E1 * E2 * E2)) < 0)), .slice s13 (dg (n * n * (E1 * E1 * E2 * E2)).natAbs).length cap13], w', (by have q0 := hBr.cell 0; have q1 := hBr.cell 1; simp only [List.getElem?_toArray, List.getElem?_cons_zero, List.getElem?_cons_succ] at q0 q1; go_simp), Over.refl _ _, ⟨rfl, hBr⟩⟩) (fun u hne => ?_)
          simp only [Act.put, List.setIfInBounds_toArray, List.set_cons_succ, List.set_cons_zero]
          obtain ⟨w9, hO9, rfl, hd9⟩ := hne
          refine wpAnyF_weaken (D2 := fun w' => (Blk r13 #[.bool (decide ((n * n * (E1 * E1 * E2 * E2)) < 0)), .slice s13 (dg (n * n * (E1 * E1 * E2 * E2)).natAbs).length cap13] 164 w')) (fun w' h => h.2) ?_
          have hne : ∃ w1, Over [r13] wc w1 ∧ ((Blk r13 #[.bool (decide ((n * n * (E1 * E1 * E2 * E2)) < 0)), .slice s13 (dg (n * n * (E1 * E1 * E2 * E2)).natAbs).length cap13] 164 w1)) := ⟨w9, hO9, hd9⟩
          clear hO9 hd9
          refine wpAnyF_ready [19] 4 (by kernel_rfl) (by kernel_rfl) (by simp) ?_
          refine AllF.cons ?_ ?_
          · refine stepC_calle (some 96) (fun u1 w' => (Blk r13 #[.bool (decide ((n * n * (E1 * E1 * E2 * E2)) < 0)), .slice s13 (dg (n * n * (E1 * E1 * E2 * E2)).natAbs).length cap13] 164 w') ∧ (Wh wc.heap.size (X1 * E2 * E2 + X2 * E1 * E1) u1 w')) (by rfl) (by rfl) (by rfl) (fun _ => by go_simp) (fun u1 => (Blk.closed _ _ _).and (Wh.closed _ _ _)) (fun w' hO hBr => (c_wholeOf (X1 * E2 * E2 + X2 * E1 * E1) (by omega) w').mono fun e w2 ⟨v, h1, h2, h3⟩ => ⟨v, h1, .of_below h3, ⟨(Blk.closed _ _ _) w' w2 hBr h3, h2.le hO.size⟩⟩) (fun u1 hne => ?_)
            simp only [Act.put, List.setIfInBounds_toArray, List.set_cons_succ, List.set_cons_zero]
            refine wpAnyF_ready [20] 3 (by kernel_rfl) (by kernel_rfl) (by simp) ?_
            refine AllF.cons ?_ ?_
            · refine stepC_calle (some 97) (fun u2 w' => (Blk r13 #[.bool (decide ((n * n * (E1 * E1 * E2 * E2)) < 0)), .slice s13 (dg (n * n * (E1 * E1 * E2 * E2)).natAbs).length cap13] 164 w') ∧ (Wh wc.heap.size (m * m * (X1 * E2 * E2 + X2 * E1 * E1)) u2 w')) (by rfl) (by rfl) (by rfl) (fun _ => by go_simp) (fun u2 => (Blk.closed _ _ _).and (Wh.closed _ _ _)) (fun w' hO ⟨hBr, hu1⟩ => (c_mulWholes (m * m) (X1 * E2 * E2 + X2 * E1 * E1) _ _ lmm lS w' (HR11.out.below (hO.belowGe (B := W14.heap.size) hb16'.out hz16 (by simp; omega))) hu1.rd).mono fun e w2 ⟨v, h1, h2, h3⟩ => ⟨v, h1, .of_below h3, ⟨(Blk.closed _ _ _) w' w2 hBr h3, h2.le hO.size⟩⟩) (fun u2 hne => ?_)
              simp only [Act.put, List.setIfInBounds_toArray, List.set_cons_succ, List.set_cons_zero]
              refine wpAnyF_ready [21] 2 (by kernel_rfl) (by kernel_rfl) (by simp) ?_
              refine AllF.cons ?_ ?_
              · refine stepC_calle (some 98) (fun u3 w' => (Blk r13 #[.bool (decide ((n * n * (E1 * E1 * E2 * E2)) < 0)), .slice s13 (dg (n * n * (E1 * E1 * E2 * E2)).natAbs).length cap13] 164 w') ∧ (Wh wc.heap.size (-(m * m * (X1 * E2 * E2 + X2 * E1 * E1))) u3 w')) (by rfl) (by rfl) (by rfl) (fun _ => by go_simp) (fun u3 => (Blk.closed _ _ _).and (Wh.closed _ _ _)) (fun w' hO ⟨hBr, hu2⟩ => (c_negated (m * m * (X1 * E2 * E2 + X2 * E1 * E1)) _ lv1 w' hu2.rd).mono fun e w2 ⟨v, h1, h2, h3⟩ => ⟨v, h1, .of_below h3, ⟨(Blk.closed _ _ _) w' w2 hBr h3, h2.le hO.size⟩⟩) (fun u3 hne => ?_)
                simp only [Act.put, List.setIfInBounds_toArray, List.set_cons_succ, List.set_cons_zero]
                refine wpAnyF_ready [22] 1 (by kernel_rfl) (by kernel_rfl) (by simp) ?_
                refine AllF.cons ?_ ?_
                · refine stepC_calle (some 99) (fun u4 w' => (Blk r13 #[.bool (decide ((n * n * (E1 * E1 * E2 * E2)) < 0)), .slice s13 (dg (n * n * (E1 * E1 * E2 * E2)).natAbs).length cap13] 164 w') ∧ (Wh wc.heap.size (adT n m X1 E1 X2 E2) u4 w')) (by rfl) (by rfl) (by rfl) (fun _ => by go_simp) (fun u4 => (Blk.closed _ _ _).and (Wh.closed _ _ _)) (fun w' hO ⟨hBr, hu3⟩ => (c_addWholes (n * n * (E1 * E1 * E2 * E2)) (-(m * m * (X1 * E2 * E2 + X2 * E1 * E1))) _ _ lv2 lv1' w' (HR13.out w' hO) hu3.rd).mono fun e w2 ⟨v, h1, h2, h3⟩ => ⟨v, h1, .of_below h3, ⟨(Blk.closed _ _ _) w' w2 hBr h3, h2.le hO.size⟩⟩) (fun u4 hne => ?_)
                  simp only [Act.put, List.setIfInBounds_toArray, List.set_cons_succ, List.set_cons_zero]
                  refine wpAnyF_ready [23] 0 (by kernel_rfl) (by kernel_rfl) (by simp) (AllF.cons ?_ AllF.nil)
                  obtain ⟨w8, _, hdd⟩ := id hne
                  obtain ⟨lz, rfl, hoz⟩ : Wh wc.heap.size (adT n m X1 E1 X2 E2) u4 w8 := by first | exact hdd.1 | exact hdd.2
                  obtain ⟨sl, scap, rfl, _⟩ := id hoz.1
                  clear hoz hdd
                  refine stepC_store (v := .agg #[.bool (decide (adT n m X1 E1 X2 E2 < 0)), .slice sl (dg (adT n m X1 E1 X2 E2).natAbs).length scap]) r13 #[.bool (decide ((n * n * (E1 * E1 * E2 * E2)) < 0)), .slice s13 (dg (n * n * (E1 * E1 * E2 * E2)).natAbs).length cap13] (fun w' => Blk r13 #[.bool (decide (adT n m X1 E1 X2 E2 < 0)), .slice sl (dg (adT n m X1 E1 X2 E2).natAbs).length scap] 164 w' ∧ RdL w' (.slice sl (dg (adT n m X1 E1 X2 E2).natAbs).length scap) (dg (adT n m X1 E1 X2 E2).natAbs)) (by rfl) (by rfl) (by rfl) (by rfl) (by rfl) (by rfl) (fun _ => by go_simp) (by rfl) (by simp [Value.cells, one1]) (.inr (by simp)) (fun _ ⟨hBr, hu4⟩ => hBr) ((Blk.closed _ _ _).and (fun _ _ h hb => h.below hb)) (fun _ _ ⟨hBr, hu4⟩ ho hb => ⟨hb, (hu4.rdO.1).overSlot hBr ho⟩) (fun hne => ?_)
                  try simp only [Value.cells]
                  refine wpAnyF_done (by kernel_rfl) (fun Wz hOz hDz => NoPanic.normal ?_) _
                  try dsimp only
                  go_wp2
                  go_meet
                  case rel => exact ⟨⟨_, hDz.1, hDz.2⟩, hOz⟩
                exact AllF.nil
              exact AllF.nil
            exact AllF.nil
          exact AllF.nil
        refine AllF.cons ?_ ?_
        · refine stepC_calle (some 96) (fun u1 w' => (Blk r13 #[.bool (decide ((n * n * (E1 * E1 * E2 * E2)) < 0)), .slice s13 (dg (n * n * (E1 * E1 * E2 * E2)).natAbs).length cap13] 164 w') ∧ (Wh wc.heap.size (X1 * E2 * E2 + X2 * E1 * E1) u1 w')) (by rfl) (by rfl) (by rfl) (fun _ => by go_simp) (fun u1 => (Blk.closed _ _ _).and (Wh.closed _ _ _)) (fun w' hO hBr => (c_wholeOf (X1 * E2 * E2 + X2 * E1 * E1) (by omega) w').mono fun e w2 ⟨v, h1, h2, h3⟩ => ⟨v, h1, .of_below h3, ⟨(Blk.closed _ _ _) w' w2 hBr h3, h2.le hO.size⟩⟩) (fun u1 hne => ?_)
          simp only [Act.put, List.setIfInBounds_toArray, List.set_cons_succ, List.set_cons_zero]
          refine wpAnyF_ready [0, 20] 4 (by kernel_rfl) (by kernel_rfl) (by simp) ?_
          refine AllF.cons ?_ ?_
          · refine stepC_val (some 77) (fun u w' => u = .agg #[.bool (decide ((n * n * (E1 * E1 * E2 * E2)) < 0)), .slice s13 (dg (n * n * (E1 * E1 * E2 * E2)).natAbs).length cap13] ∧ (Blk r13 #[.bool (decide ((n * n * (E1 * E1 * E2 * E2)) < 0)), .slice s13 (dg (n * n * (E1 * E1 * E2 * E2)).natAbs).length cap13] 164 w') ∧ (Wh wc.heap.size (X1 * E2 * E2 + X2 * E1 * E1) u1 w')) (by rfl) (by rfl) (by rfl) (fun _ w1 w2 ⟨h, d⟩ hb => ⟨h, ((Blk.closed _ _ _).and (Wh.closed _ _ _) : Closed _) w1 w2 d hb⟩) (fun w' hO ⟨hBr, hu1⟩ => ⟨.agg #[.bool (decide ((n * n * (E1 * E1 * E2 * E2)) < 0)), .slice s13 (dg (n * n * (E1 * E1 * E2 * E2)).natAbs).length cap13], w', (by have q0 := hBr.cell 0; have q1 := hBr.cell 1; simp only [List.getElem?_toArray, List.getElem?_cons_zero, List.getElem?_cons_succ] at q0 q1; go_simp), Over.refl _ _, ⟨rfl, ⟨hBr, hu1⟩⟩⟩) (fun u hne => ?_)
            simp only [Act.put, List.setIfInBounds_toArray, List.set_cons_succ, List.set_cons_zero]
            obtain ⟨w9, hO9, rfl, hd9⟩ := hne
            refine wpAnyF_weaken (D2 := fun w' => (Blk r13 #[.bool (decide ((n * n * (E1 * E1 * E2 * E2)) < 0)), .slice s13 (dg (n * n * (E1 * E1 * E2 * E2)).natAbs).length cap13] 164 w') ∧ (Wh wc.heap.size (X1 * E2 * E2 + X2 * E1 * E1) u1 w')) (fun w' h => h.2) ?_
            have hne : ∃ w1, Over [r13] wc w1 ∧ ((Blk r13 #[.bool (decide ((n * n * (E1 * E1 * E2 * E2)) < 0)), .slice s13 (dg (n * n * (E1 * E1 * E2 * E2)).natAbs).length cap13] 164 w1) ∧ (Wh wc.heap.size (X1 * E2 * E2 + X2 * E1 * E1) u1 w1)) := ⟨w9, hO9, hd9⟩
            clear hO9 hd9
            refine wpAnyF_ready [20] 3 (by kernel_rfl) (by kernel_rfl) (by simp) ?_
            refine AllF.cons ?_ ?_
            · refine stepC_calle (some 97) (fun u2 w' => (Blk r13 #[.bool (decide ((n * n * (E1 * E1 * E2 * E2)) < 0)), .slice s13 (dg (n * n * (E1 * E1 * E2 * E2)).natAbs).length cap13] 164 w') ∧ (Wh wc.heap.size (m * m * (X1 * E2 * E2 + X2 * E1 * E1)) u2 w')) (by rfl) (by rfl) (by rfl) (fun _ => by go_simp) (fun u2 => (Blk.closed _ _ _).and (Wh.closed _ _ _)) (fun w' hO ⟨hBr, hu1⟩ => (c_mulWholes (m * m) (X1 * E2 * E2 + X2 * E1 * E1) _ _ lmm lS w' (HR11.out.below (hO.belowGe (B := W14.heap.size) hb16'.out hz16 (by simp; omega))) hu1.rd).mono fun e w2 ⟨v, h1, h2, h3⟩ => ⟨v, h1, .of_below h3, ⟨(Blk.closed _ _ _) w' w2 hBr h3, h2.le hO.size⟩⟩) (fun u2 hne => ?_)
              simp only [Act.put, List.setIfInBounds_toArray, List.set_cons_succ, List.set_cons_zero]
              refine wpAnyF_ready [21] 2 (by kernel_rfl) (by kernel_rfl) (by simp) ?_
              refine AllF.cons ?_ ?_
              · refine stepC_calle (some 98) (fun u3 w' => (Blk r13 #[.bool (decide ((n * n * (E1 * E1 * E2 * E2)) < 0)), .slice s13 (dg (n * n * (E1 * E1 * E2 * E2)).natAbs).length cap13] 164 w') ∧ (Wh wc.heap.size (-(m * m * (X1 * E2 * E2 + X2 * E1 * E1))) u3 w')) (by rfl) (by rfl) (by rfl) (fun _ => by go_simp) (fun u3 => (Blk.closed _ _ _).and (Wh.closed _ _ _)) (fun w' hO ⟨hBr, hu2⟩ => (c_negated (m * m * (X1 * E2 * E2 + X2 * E1 * E1)) _ lv1 w' hu2.rd).mono fun e w2 ⟨v, h1, h2, h3⟩ => ⟨v, h1, .of_below h3, ⟨(Blk.closed _ _ _) w' w2 hBr h3, h2.le hO.size⟩⟩) (fun u3 hne => ?_)
                simp only [Act.put, List.setIfInBounds_toArray, List.set_cons_succ, List.set_cons_zero]
                refine wpAnyF_ready [22] 1 (by kernel_rfl) (by kernel_rfl) (by simp) ?_
                refine AllF.cons ?_ ?_
                · refine stepC_calle (some 99) (fun u4 w' => (Blk r13 #[.bool (decide ((n * n * (E1 * E1 * E2 * E2)) < 0)), .slice s13 (dg (n * n * (E1 * E1 * E2 * E2)).natAbs).length cap13] 164 w') ∧ (Wh wc.heap.size (adT n m X1 E1 X2 E2) u4 w')) (by rfl) (by rfl) (by rfl) (fun _ => by go_simp) (fun u4 => (Blk.closed _ _ _).and (Wh.closed _ _ _)) (fun w' hO ⟨hBr, hu3⟩ => (c_addWholes (n * n * (E1 * E1 * E2 * E2)) (-(m * m * (X1 * E2 * E2 + X2 * E1 * E1))) _ _ lv2 lv1' w' (HR13.out w' hO) hu3.rd).mono fun e w2 ⟨v, h1, h2, h3⟩ => ⟨v, h1, .of_below h3, ⟨(Blk.closed _ _ _) w' w2 hBr h3, h2.le hO.size⟩⟩) (fun u4 hne => ?_)
                  simp only [Act.put, List.setIfInBounds_toArray, List.set_cons_succ, List.set_cons_zero]
                  refine wpAnyF_ready [23] 0 (by kernel_rfl) (by kernel_rfl) (by simp) (AllF.cons ?_ AllF.nil)
                  obtain ⟨w8, _, hdd⟩ := id hne
                  obtain ⟨lz, rfl, hoz⟩ : Wh wc.heap.size (adT n m X1 E1 X2 E2) u4 w8 := by first | exact hdd.1 | exact hdd.2
                  obtain ⟨sl, scap, rfl, _⟩ := id hoz.1
                  clear hoz hdd
                  refine stepC_store (v := .agg #[.bool (decide (adT n m X1 E1 X2 E2 < 0)), .slice sl (dg (adT n m X1 E1 X2 E2).natAbs).length scap]) r13 #[.bool (decide ((n * n * (E1 * E1 * E2 * E2)) < 0)), .slice s13 (dg (n * n * (E1 * E1 * E2 * E2)).natAbs).length cap13] (fun w' => Blk r13 #[.bool (decide (adT n m X1 E1 X2 E2 < 0)), .slice sl (dg (adT n m X1 E1 X2 E2).natAbs).length scap] 164 w' ∧ RdL w' (.slice sl (dg (adT n m X1 E1 X2 E2).natAbs).length scap) (dg (adT n m X1 E1 X2 E2).natAbs)) (by rfl) (by rfl) (by rfl) (by rfl) (by rfl) (by rfl) (fun _ => by go_simp) (by rfl) (by simp [Value.cells, one1]) (.inr (by simp)) (fun _ ⟨hBr, hu4⟩ => hBr) ((Blk.closed _ _ _).and (fun _ _ h hb => h.below hb)) (fun _ _ ⟨hBr, hu4⟩ ho hb => ⟨hb, (hu4.rdO.1).overSlot hBr ho⟩) (fun hne => ?_)
                  try simp only [Value.cells]
                  refine wpAnyF_done (by kernel_rfl) (fun Wz hOz hDz => NoPanic.normal ?_) _
                  try dsimp only
                  go_wp2
                  go_meet
                  case rel => exact ⟨⟨_, hDz.1, hDz.2⟩, hOz⟩
                exact AllF.nil
              exact AllF.nil
            exact AllF.nil
          refine AllF.cons ?_ ?_
          · refine stepC_calle (some 97) (fun u2 w' => (Blk r13 #[.bool (decide ((n * n * (E1 * E1 * E2 * E2)) < 0)), .slice s13 (dg (n * n * (E1 * E1 * E2 * E2)).natAbs).length cap13] 164 w') ∧ (Wh wc.heap.size (m * m * (X1 * E2 * E2 + X2 * E1 * E1)) u2 w')) (by rfl) (by rfl) (by rfl) (fun _ => by go_simp) (fun u2 => (Blk.closed _ _ _).and (Wh.closed _ _ _)) (fun w' hO ⟨hBr, hu1⟩ => (c_mulWholes (m * m) (X1 * E2 * E2 + X2 * E1 * E1) _ _ lmm lS w' (HR11.out.below (hO.belowGe (B := W14.heap.size) hb16'.out hz16 (by simp; omega))) hu1.rd).mono fun e w2 ⟨v, h1, h2, h3⟩ => ⟨v, h1, .of_below h3, ⟨(Blk.closed _ _ _) w' w2 hBr h3, h2.le hO.size⟩⟩) (fun u2 hne => ?_)
            simp only [Act.put, List.setIfInBounds_toArray, List.set_cons_succ, List.set_cons_zero]
            refine wpAnyF_ready [0, 21] 3 (by kernel_rfl) (by kernel_rfl) (by simp) ?_
            refine AllF.cons ?_ ?_
            · refine stepC_val (some 77) (fun u w' => u = .agg #[.bool (decide ((n * n * (E1 * E1 * E2 * E2)) < 0)), .slice s13 (dg (n * n * (E1 * E1 * E2 * E2)).natAbs).length cap13] ∧ (Blk r13 #[.bool (decide ((n * n * (E1 * E1 * E2 * E2)) < 0)), .slice s13 (dg (n * n * (E1 * E1 * E2 * E2)).natAbs).length cap13] 164 w') ∧ (Wh wc.heap.size (m * m * (X1 * E2 * E2 + X2 * E1 * E1)) u2 w')) (by rfl) (by rfl) (by rfl) (fun _ w1 w2 ⟨h, d⟩ hb => ⟨h, ((Blk.closed _ _ _).and (Wh.closed _ _ _) : Closed _) w1 w2 d hb⟩) (fun w' hO ⟨hBr, hu2⟩ => ⟨.agg #[.bool (decide ((n * n * (E1 * E1 * E2 * E2)) < 0)), .slice s13 (dg (n * n * (E1 * E1 * E2 * E2)).natAbs).length cap13], w', (by have q0 := hBr.cell 0; have q1 := hBr.cell 1; simp only [List.getElem?_toArray, List.getElem?_cons_zero, List.getElem?_cons_succ] at q0 q1; go_simp), Over.refl _ _, ⟨rfl, ⟨hBr, hu2⟩⟩⟩) (fun u hne => ?_)
              simp only [Act.put, List.setIfInBounds_toArray, List.set_cons_succ, List.set_cons_zero]
              obtain ⟨w9, hO9, rfl, hd9⟩ := hne
              refine wpAnyF_weaken (D2 := fun w' => (Blk r13 #[.bool (decide ((n * n * (E1 * E1 * E2 * E2)) < 0)), .slice s13 (dg (n * n * (E1 * E1 * E2 * E2)).natAbs).length cap13] 164 w') ∧ (Wh wc.heap.size (m * m * (X1 * E2 * E2 + X2 * E1 * E1)) u2 w')) (fun w' h => h.2) ?_
              have hne : ∃ w1, Over [r13] wc w1 ∧ ((Blk r13 #[.bool (decide ((n * n * (E1 * E1 * E2 * E2)) < 0)), .slice s13 (dg (n * n * (E1 * E1 * E2 * E2)).natAbs).length cap13] 164 w1) ∧ (Wh wc.heap.size (m * m * (X1 * E2 * E2 + X2 * E1 * E1)) u2 w1)) := ⟨w9, hO9, hd9⟩
              clear hO9 hd9
              refine wpAnyF_ready [21] 2 (by kernel_rfl) (by kernel_rfl) (by simp) ?_
              refine AllF.cons ?_ ?_
              · refine stepC_calle (some 98) (fun u3 w' => (Blk r13 #[.bool (decide ((n * n * (E1 * E1 * E2 * E2)) < 0)), .slice s13 (dg (n * n * (E1 * E1 * E2 * E2)).natAbs).length cap13] 164 w') ∧ (Wh wc.heap.size (-(m * m * (X1 * E2 * E2 + X2 * E1 * E1))) u3 w')) (by rfl) (by rfl) (by rfl) (fun _ => by go_simp) (fun u3 => (Blk.closed _ _ _).and (Wh.closed _ _ _)) (fun w' hO ⟨hBr, hu2⟩ => (c_negated (m * m * (X1 * E2 * E2 + X2 * E1 * E1)) _ lv1 w' hu2.rd).mono fun e w2 ⟨v, h1, h2, h3⟩ => ⟨v, h1, .of_below h3, ⟨(Blk.closed _ _ _) w' w2 hBr h3, h2.le hO.size⟩⟩) (fun u3 hne => ?_)
                simp only [Act.put, List.setIfInBounds_toArray, List.set_cons_succ, List.set_cons_zero]
                refine wpAnyF_ready [22] 1 (by kernel_rfl) (by kernel_rfl) (by simp) ?_
                refine AllF.cons ?_ ?_
                · refine stepC_calle (some 99) (fun u4 w' => (Blk r13 #[.bool (decide ((n * n * (E1 * E1 * E2 * E2)) < 0)), .slice s13 (dg (n * n * (E1 * E1 * E2 * E2)).natAbs).length cap13] 164 w') ∧ (Wh wc.heap.size (adT n m X1 E1 X2 E2) u4 w')) (by rfl) (by rfl) (by rfl) (fun _ => by go_simp) (fun u4 => (Blk.closed _ _ _).and (Wh.closed _ _ _)) (fun w' hO ⟨hBr, hu3⟩ => (c_addWholes (n * n * (E1 * E1 * E2 * E2)) (-(m * m * (X1 * E2 * E2 + X2 * E1 * E1))) _ _ lv2 lv1' w' (HR13.out w' hO) hu3.rd).mono fun e w2 ⟨v, h1, h2, h3⟩ => ⟨v, h1, .of_below h3, ⟨(Blk.closed _ _ _) w' w2 hBr h3, h2.le hO.size⟩⟩) (fun u4 hne => ?_)
                  simp only [Act.put, List.setIfInBounds_toArray, List.set_cons_succ, List.set_cons_zero]
                  refine wpAnyF_ready [23] 0 (by kernel_rfl) (by kernel_rfl) (by simp) (AllF.cons ?_ AllF.nil)
                  obtain ⟨w8, _, hdd⟩ := id hne
                  obtain ⟨lz, rfl, hoz⟩ : Wh wc.heap.size (adT n m X1 E1 X2 E2) u4 w8 := by first | exact hdd.1 | exact hdd.2
                  obtain ⟨sl, scap, rfl, _⟩ := id hoz.1
                  clear hoz hdd
                  refine stepC_store (v := .agg #[.bool (decide (adT n m X1 E1 X2 E2 < 0)), .slice sl (dg (adT n m X1 E1 X2 E2).natAbs).length scap]) r13 #[.bool (decide ((n * n * (E1 * E1 * E2 * E2)) < 0)), .slice s13 (dg (n * n * (E1 * E1 * E2 * E2)).natAbs).length cap13] (fun w' => Blk r13 #[.bool (decide (adT n m X1 E1 X2 E2 < 0)), .slice sl (dg (adT n m X1 E1 X2 E2).natAbs).length scap] 164 w' ∧ RdL w' (.slice sl (dg (adT n m X1 E1 X2 E2).natAbs).length scap) (dg (adT n m X1 E1 X2 E2).natAbs)) (by rfl) (by rfl) (by rfl) (by rfl) (by rfl) (by rfl) (fun _ => by go_simp) (by rfl) (by simp [Value.cells, one1]) (.inr (by simp)) (fun _ ⟨hBr, hu4⟩ => hBr) ((Blk.closed _ _ _).and (fun _ _ h hb => h.below hb)) (fun _ _ ⟨hBr, hu4⟩ ho hb => ⟨hb, (hu4.rdO.1).overSlot hBr ho⟩) (fun hne => ?_)
                  try simp only [Value.cells]
                  refine wpAnyF_done (by kernel_rfl) (fun Wz hOz hDz => NoPanic.normal ?_) _
                  try dsimp only
                  go_wp2
                  go_meet
                  case rel => exact ⟨⟨_, hDz.1, hDz.2⟩, hOz⟩
                exact AllF.nil
              exact AllF.nil
            refine AllF.cons ?_ ?_
            · refine stepC_calle (some 98) (fun u3 w' => (Blk r13 #[.bool (decide ((n * n * (E1 * E1 * E2 * E2)) < 0)), .slice s13 (dg (n * n * (E1 * E1 * E2 * E2)).natAbs).length cap13] 164 w') ∧ (Wh wc.heap.size (-(m * m * (X1 * E2 * E2 + X2 * E1 * E1))) u3 w')) (by rfl) (by rfl) (by rfl) (fun _ => by go_simp) (fun u3 => (Blk.closed _ _ _).and (Wh.closed _ _ _)) (fun w' hO ⟨hBr, hu2⟩ => (c_negated (m * m * (X1 * E2 * E2 + X2 * E1 * E1)) _ lv1 w' hu2.rd).mono fun e w2 ⟨v, h1, h2, h3⟩ => ⟨v, h1, .of_below h3, ⟨(Blk.closed _ _ _) w' w2 hBr h3, h2.le hO.size⟩⟩) (fun u3 hne => ?_)
              simp only [Act.put, List.setIfInBounds_toArray, List.set_cons_succ, List.set_cons_zero]
              refine wpAnyF_ready [0] 2 (by kernel_rfl) (by kernel_rfl) (by simp) ?_
              refine AllF.cons ?_ ?_
              · refine stepC_val (some 77) (fun u w' => u = .agg #[.bool (decide ((n * n * (E1 * E1 * E2 * E2)) < 0)), .slice s13 (dg (n * n * (E1 * E1 * E2 * E2)).natAbs).length cap13] ∧ (Blk r13 #[.bool (decide ((n * n * (E1 * E1 * E2 * E2)) < 0)), .slice s13 (dg (n * n * (E1 * E1 * E2 * E2)).natAbs).length cap13] 164 w') ∧ (Wh wc.heap.size (-(m * m * (X1 * E2 * E2 + X2 * E1 * E1))) u3 w')) (by rfl) (by rfl) (by rfl) (fun _ w1 w2 ⟨h, d⟩ hb => ⟨h, ((Blk.closed _ _ _).and (Wh.closed _ _ _) : Closed _) w1 w2 d hb⟩) (fun w' hO ⟨hBr, hu3⟩ => ⟨.agg #[.bool (decide ((n * n * (E1 * E1 * E2 * E2)) < 0)), .slice s13 (dg (n * n * (E1 * E1 * E2 * E2)).natAbs).length cap13], w', (by have q0 := hBr.cell 0; have q1 := hBr.cell 1; simp only [List.getElem?_toArray, List.getElem?_cons_zero, List.getElem?_cons_succ] at q0 q1; go_simp), Over.refl _ _, ⟨rfl, ⟨hBr, hu3⟩⟩⟩) (fun u hne => ?_)
                simp only [Act.put, List.setIfInBounds_toArray, List.set_cons_succ, List.set_cons_zero]
                obtain ⟨w9, hO9, rfl, hd9⟩ := hne
                refine wpAnyF_weaken (D2 := fun w' => (Blk r13 #[.bool (decide ((n * n * (E1 * E1 * E2 * E2)) < 0)), .slice s13 (dg (n * n * (E1 * E1 * E2 * E2)).natAbs).length cap13] 164 w') ∧ (Wh wc.heap.size (-(m * m * (X1 * E2 * E2 + X2 * E1 * E1))) u3 w')) (fun w' h => h.2) ?_
                have hne : ∃ w1, Over [r13] wc w1 ∧ ((Blk r13 #[.bool (decide ((n * n * (E1 * E1 * E2 * E2)) < 0)), .slice s13 (dg (n * n * (E1 * E1 * E2 * E2)).natAbs).length cap13] 164 w1) ∧ (Wh wc.heap.size (-(m * m * (X1 * E2 * E2 + X2 * E1 * E1))) u3 w1)) := ⟨w9, hO9, hd9⟩
                clear hO9 hd9
                refine wpAnyF_ready [22] 1 (by kernel_rfl) (by kernel_rfl) (by simp) ?_
                refine AllF.cons ?_ ?_
                · refine stepC_calle (some 99) (fun u4 w' => (Blk r13 #[.bool (decide ((n * n * (E1 * E1 * E2 * E2)) < 0)), .slice s13 (dg (n * n * (E1 * E1 * E2 * E2)).natAbs).length cap13] 164 w') ∧ (Wh wc.heap.size (adT n m X1 E1 X2 E2) u4 w')) (by rfl) (by rfl) (by rfl) (fun _ => by go_simp) (fun u4 => (Blk.closed _ _ _).and (Wh.closed _ _ _)) (fun w' hO ⟨hBr, hu3⟩ => (c_addWholes (n * n * (E1 * E1 * E2 * E2)) (-(m * m * (X1 * E2 * E2 + X2 * E1 * E1))) _ _ lv2 lv1' w' (HR13.out w' hO) hu3.rd).mono fun e w2 ⟨v, h1, h2, h3⟩ => ⟨v, h1, .of_below h3, ⟨(Blk.closed _ _ _) w' w2 hBr h3, h2.le hO.size⟩⟩) (fun u4 hne => ?_)
                  simp only [Act.put, List.setIfInBounds_toArray, List.set_cons_succ, List.set_cons_zero]
                  refine wpAnyF_ready [23] 0 (by kernel_rfl) (by kernel_rfl) (by simp) (AllF.cons ?_ AllF.nil)
                  obtain ⟨w8, _, hdd⟩ := id hne
                  obtain ⟨lz, rfl, hoz⟩ : Wh wc.heap.size (adT n m X1 E1 X2 E2) u4 w8 := by first | exact hdd.1 | exact hdd.2
                  obtain ⟨sl, scap, rfl, _⟩ := id hoz.1
                  clear hoz hdd
                  refine stepC_store (v := .agg #[.bool (decide (adT n m X1 E1 X2 E2 < 0)), .slice sl (dg (adT n m X1 E1 X2 E2).natAbs).length scap]) r13 #[.bool (decide ((n * n * (E1 * E1 * E2 * E2)) < 0)), .slice s13 (dg (n * n * (E1 * E1 * E2 * E2)).natAbs).length cap13] (fun w' => Blk r13 #[.bool (decide (adT n m X1 E1 X2 E2 < 0)), .slice sl (dg (adT n m X1 E1 X2 E2).natAbs).length scap] 164 w' ∧ RdL w' (.slice sl (dg (adT n m X1 E1 X2 E2).natAbs).length scap) (dg (adT n m X1 E1 X2 E2).natAbs)) (by rfl) (by rfl) (by rfl) (by rfl) (by rfl) (by rfl) (fun _ => by go_simp) (by rfl) (by simp [Value.cells, one1]) (.inr (by simp)) (fun _ ⟨hBr, hu4⟩ => hBr) ((Blk.closed _ _ _).and (fun _ _ h hb => h.below hb)) (fun _ _ ⟨hBr, hu4⟩ ho hb => ⟨hb, (hu4.rdO.1).overSlot hBr ho⟩) (fun hne => ?_)
                  try simp only [Value.cells]
                  refine wpAnyF_done (by kernel_rfl) (fun Wz hOz hDz => NoPanic.normal ?_) _
                  try dsimp only
                  go_wp2
                  go_meet
                  case rel => exact ⟨⟨_, hDz.1, hDz.2⟩, hOz⟩
                exact AllF.nil
              exact AllF.nil
            exact AllF.nil
          exact AllF.nil
        exact AllF.nil
      obtain ⟨x13, hOz⟩ := hcut
      have hT : -(368640000000000000000000000 + 81920000000000000000000000) ≤ adT n m X1 E1 X2 E2 ∧ adT n m X1 E1 X2 E2 ≤ 368640000000000000000000000 + 81920000000000000000000000 := by unfold adT; omega
      have hTn : (adT n m X1 E1 X2 E2).natAbs < 10000 ^ 20 := by omega
      generalize adT n m X1 E1 X2 E2 = T at *
      have hbW : Below W14.heap.size W14 wc := hOz.belowGe (B := W14.heap.size) hb16'.out hz16 (by simp; omega)
      replace bb : Below rC w wc := hOz.belowGe (B := rC) bb (by omega) (by simp; omega)
      replace kC := kC.over hOz (by simp; omega)
      replace kP := kP.over hOz (by simp; omega)
      replace kR := kR.over hOz (by simp; omega)
      replace x11 := x11.next hbW
      replace x12 := x12.next hbW
      clear p0 p1 p2 q0 q1 q2 y0 y1 z0 z1 kQ HR11 HR13 k13 hr13' k11 hr11 hOz hbW hn1 hn2 hn3 hn4
      have hz5 := bb.size
      obtain ⟨lv11, k11, hr11⟩ := x11
      obtain ⟨lv12, k12, hr12⟩ := x12
      have y0 : wc.cell? ⟨r11, 0, none⟩ = some (.bool (decide (m * m < 0))) := k11.cell 0
      have y1 : wc.cell? ⟨r11, 1, none⟩ = some lv11 := k11.cell 1
      have z0 : wc.cell? ⟨r12, 0, none⟩ = some (.bool (decide (E1 * E1 * E2 * E2 < 0))) := k12.cell 0
      have z1 : wc.cell? ⟨r12, 1, none⟩ = some lv12 := k12.cell 1
      go_wp2_with fail
      refine (c_mulWholes (m * m) (E1 * E1 * E2 * E2) _ _ lmm lee _ ⟨_, rfl, hr11⟩ ⟨_, rfl, hr12⟩).mono ?_
      rintro e w15 ⟨u5, rfl, hu5, hb17⟩
      obtain ⟨lv, rfl, ho⟩ := hu5
      obtain ⟨sl, scap, rfl, -⟩ := id ho.1
      have x14 : WhB w15.heap.size (adB m E1 E2) (w15.alloc (.cells #[.bool (decide (m * m * (E1 * E1 * E2 * E2) < 0)), .slice sl (dg (m * m * (E1 * E1 * E2 * E2)).natAbs).length scap] 164)) := ⟨_, Blk.new _ _ _, ho.1.below ((Below.refl _ _).alloc (Nat.le_refl _) _)⟩
      have hb18 : Below wc.heap.size wc (w15.alloc (.cells #[.bool (decide (m * m * (E1 * E1 * E2 * E2) < 0)), .slice sl (dg (m * m * (E1 * E1 * E2 * E2)).natAbs).length scap] 164)) := hb17.alloc hb17.size _
      have v3 := mulb (x := m * m) (y := E1 * E1 * E2 * E2) 10240000000000000000 160000 (by omega) (by omega)
      have hDn : (adB m E1 E2).natAbs < 10000 ^ 60 := by unfold adB; omega
      clear y0 y1 z0 z1 k11 hr11 k12 hr12 ho hb17
      go_upto_region 15 with (fail)
      generalize w15.alloc _ = W15 at x14 hb18 ⊢
      generalize w15.heap.size = r14 at x14 ⊢
      replace bb := below_step hb18 (by omega) bb
      replace kC := kC.next hb18
      replace kP := kP.next hb18
      replace kR := kR.next hb18
      replace x13 := x13.next hb18
      generalize adB m E1 E2 = D at *
      clear hb18
      have hTe : ∀ e : Int, 1 ≤ e → e ≤ 20 → (T * (e * e)).natAbs < 10000 ^ 60 := fun e h1 h2 => by
        have h3 := mulb (x := e) (y := e) 20 20 (by omega) (by omega)
        have h4 := mulb (x := T) (y := e * e) (368640000000000000000000000 + 81920000000000000000000000) 400 (by omega) (by omega)
        omega
      have lT : (dg T.natAbs).length ≤ 40000 := Nat.le_trans (dg_len hTn) (by omega)
      have HTe := Lib.hid hTe
      have HDn := Lib.hid hDn
      have HLT := Lib.hid lT
      clear hTe hDn lT
      clear hT hTn lmm lnn lee lm ln lS lv1 lv1' lv2 v1 v2 v3 mm nn HWm HWe ee1 ee2 ee3
      have hz6 := bb.size
      go_wp2
      go_loopw [15] (fun x wr => ∃ (e : Int) (f : Nat), x = .int .i64 e ∧ (1 ≤ e ∧ e ≤ 21) ∧ e + f = 21 ∧ Hid (adR (adF A B X1 Y1 E1 n m T D f e) = Res) ∧ Below W15.heap.size W15 wr) (fun x _ => (21 - intOf x).toNat)
      case atStart => exact ⟨1, 20, rfl, by omega, by omega, HRes, Below.refl _ _⟩
      case round =>
        clear HRes
        obtain ⟨e, f, rfl, he, hf, HF, hbl⟩ := hrel
        by_cases hle : e ≤ 20
        · obtain ⟨g, rfl⟩ : ∃ g, f = g + 1 := ⟨f - 1, by omega⟩
          obtain ⟨lv13, k13, hr13w⟩ := x13.next hbl
          obtain ⟨lv14, k14, hr14w⟩ := x14.next hbl
          have l13 := k13.lt
          have l14 := k14.lt
          have y0 : wr.cell? ⟨r13, 0, none⟩ = some (.bool (decide (T < 0))) := k13.cell 0
          have y1 : wr.cell? ⟨r13, 1, none⟩ = some lv13 := k13.cell 1
          have z0 : wr.cell? ⟨r14, 0, none⟩ = some (.bool (decide (D < 0))) := k14.cell 0
          have z1 : wr.cell? ⟨r14, 1, none⟩ = some lv14 := k14.cell 1
          have he2 := mulb (x := e) (y := e) 20 20 (by omega) (by omega)
          have HTi := Lib.hid (fun (w' : World) (hb : Below wr.heap.size wr w') => c_timesInt T (e * e) (.agg #[.bool (decide (T < 0)), lv13]) HLT.out (by omega) w' (WhR.below ⟨_, rfl, hr13w⟩ hb))
          have HSq := Lib.hid (fun (w' : World) (u : Value) (hb : Below wr.heap.size wr w') (hu : WhR (T * (e * e)) u w') => c_smallQuotient (T * (e * e)) D u (.agg #[.bool (decide (D < 0)), lv14]) (HTe.out e he.1 hle) HDn.out w' hu (WhR.below ⟨_, rfl, hr14w⟩ hb))
          have hxb : -10000 ≤ sqV (T * (e * e)) D ∧ sqV (T * (e * e)) D ≤ 10000 := sqF_bd _ _ _ _ _ (by omega)
          have hF := HF.out
          unfold adF at hF
          have hsm : Hid (sqOk (T * (e * e)) D = true → (-8000 ≤ m ∧ m ≤ 8000) ∧ (-2000000000 ≤ n ∧ n ≤ 2000000000)) := Lib.hid (fun h => hs.out e _ ⟨he.1, hle⟩ hxb (by unfold sqOk at h; exact (eq_of_beq h).symm))
          generalize sqV (T * (e * e)) D = x at HSq hxb hF hsm
          generalize sqOk (T * (e * e)) D = ok at HSq hF hsm
          have HF2 := Lib.hid hF
          clear hF HF
          go_upto_region 18 with (fail)
          refine wp_region_cls [] (fun _ => false) (fun _ => True) (fun _ => True) (by kernel_rfl) (trivial) ?_
          apply wpAnyF_hd ⟨wr.drew, (Over.refl _ _).drew, trivial⟩ [true, true, true, true, false, true] 7 (Closed.true) (fun _ _ => trivial) (by kernel_rfl) (by kernel_rfl) (by kernel_rfl) (by kernel_rfl) (by simp)
          · intro E hE hEN hEn; (repeat (first | (refine wpHL_take ?_; go_big_quiet_step (fail); refine wpQuiet_nil ?_) | refine wpHL_skip ?_)); exact wpHL_end rfl
          refine wpAnyF_ready [4] 6 (by kernel_rfl) (by kernel_rfl) (by simp) (AllF.cons ?_ AllF.nil)
          refine stepC_calle (some 112) (fun u => fun w' => WhR (T * (e * e)) u w') (by rfl) (by rfl) (by rfl) (fun _ => by go_simp) (fun u => fun _ _ h hb => h.below hb) (fun w' hO hD => (HTi.out w' hO.below).mono fun e w2 ⟨v, h1, h2, h3⟩ => ⟨v, h1, .of_below h3, h2.rd⟩) (fun u hne => ?_)
          simp only [Act.put, List.setIfInBounds_toArray, List.set_cons_succ, List.set_cons_zero]
          refine wpAnyF_ready [6] 5 (by kernel_rfl) (by kernel_rfl) (by simp) (AllF.cons ?_ AllF.nil)
          refine stepC_call (v := .tuple #[.int .i64 x, .bool ok]) (some 114) (fun _ => True) (by rfl) (by rfl) (by rfl) (fun _ => by go_simp) (Closed.true) (fun w' hO hD => (HSq.out w' u hO.below hD).mono fun e w2 h => ⟨h.1, .of_below h.2, trivial⟩) (fun hne => ?_)
          simp only [Act.put, List.setIfInBounds_toArray, List.set_cons_succ, List.set_cons_zero]
          apply wpAnyF_hd hne [false, false, false, false, false, false, false, true, true, true, true, true] 0 (Closed.true) (fun _ _ => trivial) (by kernel_rfl) (by kernel_rfl) (by kernel_rfl) (by kernel_rfl) (by simp)
          · intro E hE hEN hEn; (repeat (first | (refine wpHL_take ?_; go_big_quiet_step (fail); refine wpQuiet_nil ?_) | refine wpHL_skip ?_)); exact wpHL_end rfl
          refine wpAnyF_done (by kernel_rfl) (fun Wz hOz hDz => NoPanic.normal ?_) _
          try dsimp only
          have hbz := below_step hOz.below hbl.size hbl
          clear y0 y1 z0 z1 HTi HSq hOz hDz
          cases ok
          · have HN : Hid (adR (adF A B X1 Y1 E1 n m T D g (e + 1)) = Res) := (by have h := HF2.out; rw [if_neg (fun h9 => Bool.noConfusion h9.1)] at h; exact h)
            clear HF2
            go_wp2
            go_roundw
            case rel => exact ⟨e + 1, g, by go_num, by omega, by omega, HN, hbz⟩
            case measure => simp [intOf]; omega
          · obtain ⟨hm, hn⟩ := hsm.out rfl
            clear hsm
            have HGx := Lib.hid (fun W => c_gcd x e (by omega) (by omega) W)
            generalize gcdI x e = gx at HGx HF2
            go_wp2_with fail
            refine (HGx.out _).mono ?_
            rintro e' _ ⟨rfl, kk, rfl⟩
            have hb2 := below_drewN' Wz kk
            generalize Wz.drewN kk = wg at hb2 ⊢
            have hbg := below_step hb2 hbz.size hbz
            clear HGx
            by_cases hg1 : gx = 1
            · have HCv := Lib.hid (fun W => c_curveValue A B x e hA hB hxb (by omega) W)
              have hcv := cv_lt hA hB hxb (show 1 ≤ e ∧ e ≤ 20 by omega)
              generalize cvV A B x e = q at HCv HF2 hcv
              have HRt := Lib.hid (fun W => c_exactRootA q hcv W)
              have hrt := rt_small hcv
              generalize sqB q = sb at HRt HF2
              generalize rtI q = rt at HRt HF2 hrt
              have jC := kC.next hbg
              have c0 : wg.cell? ⟨rC, 0, none⟩ = some (.int .i64 A) := jC.cell 0
              have c1 : wg.cell? ⟨rC, 1, none⟩ = some (.int .i64 B) := jC.cell 1
              go_wp2_with fail
              refine (HCv.out _).mono ?_
              rintro e' w3 ⟨rfl, hb3⟩
              have hb9 := below_step hb3 hbg.size hbg
              clear HCv c0 c1
              go_wp2_with fail
              refine (HRt.out _).mono ?_
              rintro e' _ ⟨rfl, rfl⟩
              clear HRt
              cases sb
              · have HN : Hid (adR (adF A B X1 Y1 E1 n m T D g (e + 1)) = Res) := (by have h := HF2.out; rw [if_neg (fun h9 => Bool.noConfusion h9.2.2)] at h; exact h)
                clear HF2
                go_wp2
                go_roundw
                case rel => exact ⟨e + 1, g, by go_num, by omega, by omega, HN, hb9⟩
                case measure => simp [intOf]; omega
              · have hF := HF2.out
                rw [if_pos (by simp [hg1])] at hF
                simp only [adR] at hF
                have jP := kP.next hb9
                have p0 : w3.cell? ⟨rP, 0, none⟩ = some (.int .i64 X1) := jP.cell 0
                have p1 : w3.cell? ⟨rP, 1, none⟩ = some (.int .i64 Y1) := jP.cell 1
                have p2 : w3.cell? ⟨rP, 2, none⟩ = some (.int .i64 E1) := jP.cell 2
                obtain ⟨b1, b2, _, _⟩ := cub_bd 10000 (x := X1) (e := e) (by omega) (by omega)
                obtain ⟨b3, b4, _, _⟩ := cub_bd 10000 (x := x) (e := E1) (by omega) (by omega)
                have b5 := mulb (x := n) (y := X1 * e * e - x * E1 * E1) 2000000000 8000000 (by omega) (by omega)
                have b6 := mulb (x := n * (X1 * e * e - x * E1 * E1)) (y := E1) 16000000000000000 20 (by omega) (by omega)
                have b7 := mulb (x := Y1) (y := m) 3000000 8000 (by omega) (by omega)
                obtain ⟨b8, b9, _, _⟩ := cub_bd 24000000000 (x := Y1 * m) (e := e) (by omega) (by omega)
                clear HF2
                obtain ⟨c1, d1⟩ : ∃ b, decide (n * (X1 * e * e - x * E1 * E1) * E1 - Y1 * m * e * e < 0) = b := ⟨_, rfl⟩
                obtain ⟨c2, d2⟩ : ∃ b, decide (m < 0) = b := ⟨_, rfl⟩
                rw [d1, d2] at hF
                cases c1 <;> cases c2
                · rw [if_pos rfl] at hF
                  subst hF
                  -- w3 world, hb9 its Below from W15, x x, rt y, e e, true found
                  go_upto_region 25 with (fail)
                  have jR := kR.next hb9
                  have z0 := jR.frozen 0
                  have z1 := jR.frozen 1
                  have z2 := jR.frozen 2
                  have t0 : (w3).cell? ⟨rR, 0, none⟩ = some (.int .i64 0) := jR.cell 0
                  have t1 : (w3).cell? ⟨rR, 1, none⟩ = some (.int .i64 0) := jR.cell 1
                  have t2 : (w3).cell? ⟨rR, 2, none⟩ = some (.int .i64 0) := jR.cell 2
                  have k9 := ((jR.set 0 (.int .i64 (x))).set 1 (.int .i64 (rt))).set 2 (.int .i64 (e))
                  have hB9 : Below rC w ((((w3).setCell ⟨rR, 0, none⟩ (.int .i64 (x))).setCell ⟨rR, 1, none⟩ (.int .i64 (rt))).setCell ⟨rR, 2, none⟩ (.int .i64 (e))) := (((below_step hb9 (by omega) bb).setCell (by simp; omega) _).setCell (by simp; omega) _).setCell (by simp; omega) _
                  (repeat (first | go_skip | go_guarded | go_step))
                  generalize (World.setCell (World.setCell (World.setCell _ _ _) _ _) _ _) = w9 at k9 hB9 ⊢
                  clear t0 t1 t2 z0 z1 z2
                  have q0 : w9.cell? ⟨rR, 0, none⟩ = some (.int .i64 (x)) := k9.cell 0
                  have q1 : w9.cell? ⟨rR, 1, none⟩ = some (.int .i64 (rt)) := k9.cell 1
                  have q2 : w9.cell? ⟨rR, 2, none⟩ = some (.int .i64 (e)) := k9.cell 2
                  refine bodyPost_ret (v := .tuple #[.agg #[.int .i64 (x), .int .i64 (rt), .int .i64 (e)], .bool true]) (by simp [results, Tryz.results150, go_sem, q0, q1, q2]) rfl ?_
                  exact ⟨rfl, hrC ▸ hB9⟩
                · rw [if_neg (by simp)] at hF
                  subst hF
                  -- w3 world, hb9 its Below from W15, x x, -rt y, e e, true found
                  go_upto_region 25 with (fail)
                  have jR := kR.next hb9
                  have z0 := jR.frozen 0
                  have z1 := jR.frozen 1
                  have z2 := jR.frozen 2
                  have t0 : (w3).cell? ⟨rR, 0, none⟩ = some (.int .i64 0) := jR.cell 0
                  have t1 : (w3).cell? ⟨rR, 1, none⟩ = some (.int .i64 0) := jR.cell 1
                  have t2 : (w3).cell? ⟨rR, 2, none⟩ = some (.int .i64 0) := jR.cell 2
                  have k9 := ((jR.set 0 (.int .i64 (x))).set 1 (.int .i64 (-rt))).set 2 (.int .i64 (e))
                  have hB9 : Below rC w ((((w3).setCell ⟨rR, 0, none⟩ (.int .i64 (x))).setCell ⟨rR, 1, none⟩ (.int .i64 (-rt))).setCell ⟨rR, 2, none⟩ (.int .i64 (e))) := (((below_step hb9 (by omega) bb).setCell (by simp; omega) _).setCell (by simp; omega) _).setCell (by simp; omega) _
                  (repeat (first | go_skip | go_guarded | go_step))
                  generalize (World.setCell (World.setCell (World.setCell _ _ _) _ _) _ _) = w9 at k9 hB9 ⊢
                  clear t0 t1 t2 z0 z1 z2
                  have q0 : w9.cell? ⟨rR, 0, none⟩ = some (.int .i64 (x)) := k9.cell 0
                  have q1 : w9.cell? ⟨rR, 1, none⟩ = some (.int .i64 (-rt)) := k9.cell 1
                  have q2 : w9.cell? ⟨rR, 2, none⟩ = some (.int .i64 (e)) := k9.cell 2
                  refine bodyPost_ret (v := .tuple #[.agg #[.int .i64 (x), .int .i64 (-rt), .int .i64 (e)], .bool true]) (by simp [results, Tryz.results150, go_sem, q0, q1, q2]) rfl ?_
                  exact ⟨rfl, hrC ▸ hB9⟩
                · rw [if_neg (by simp)] at hF
                  subst hF
                  -- w3 world, hb9 its Below from W15, x x, -rt y, e e, true found
                  go_upto_region 25 with (fail)
                  have jR := kR.next hb9
                  have z0 := jR.frozen 0
                  have z1 := jR.frozen 1
                  have z2 := jR.frozen 2
                  have t0 : (w3).cell? ⟨rR, 0, none⟩ = some (.int .i64 0) := jR.cell 0
                  have t1 : (w3).cell? ⟨rR, 1, none⟩ = some (.int .i64 0) := jR.cell 1
                  have t2 : (w3).cell? ⟨rR, 2, none⟩ = some (.int .i64 0) := jR.cell 2
                  have k9 := ((jR.set 0 (.int .i64 (x))).set 1 (.int .i64 (-rt))).set 2 (.int .i64 (e))
                  have hB9 : Below rC w ((((w3).setCell ⟨rR, 0, none⟩ (.int .i64 (x))).setCell ⟨rR, 1, none⟩ (.int .i64 (-rt))).setCell ⟨rR, 2, none⟩ (.int .i64 (e))) := (((below_step hb9 (by omega) bb).setCell (by simp; omega) _).setCell (by simp; omega) _).setCell (by simp; omega) _
                  (repeat (first | go_skip | go_guarded | go_step))
                  generalize (World.setCell (World.setCell (World.setCell _ _ _) _ _) _ _) = w9 at k9 hB9 ⊢
                  clear t0 t1 t2 z0 z1 z2
                  have q0 : w9.cell? ⟨rR, 0, none⟩ = some (.int .i64 (x)) := k9.cell 0
                  have q1 : w9.cell? ⟨rR, 1, none⟩ = some (.int .i64 (-rt)) := k9.cell 1
                  have q2 : w9.cell? ⟨rR, 2, none⟩ = some (.int .i64 (e)) := k9.cell 2
                  refine bodyPost_ret (v := .tuple #[.agg #[.int .i64 (x), .int .i64 (-rt), .int .i64 (e)], .bool true]) (by simp [results, Tryz.results150, go_sem, q0, q1, q2]) rfl ?_
                  exact ⟨rfl, hrC ▸ hB9⟩
                · rw [if_pos rfl] at hF
                  subst hF
                  -- w3 world, hb9 its Below from W15, x x, rt y, e e, true found
                  go_upto_region 25 with (fail)
                  have jR := kR.next hb9
                  have z0 := jR.frozen 0
                  have z1 := jR.frozen 1
                  have z2 := jR.frozen 2
                  have t0 : (w3).cell? ⟨rR, 0, none⟩ = some (.int .i64 0) := jR.cell 0
                  have t1 : (w3).cell? ⟨rR, 1, none⟩ = some (.int .i64 0) := jR.cell 1
                  have t2 : (w3).cell? ⟨rR, 2, none⟩ = some (.int .i64 0) := jR.cell 2
                  have k9 := ((jR.set 0 (.int .i64 (x))).set 1 (.int .i64 (rt))).set 2 (.int .i64 (e))
                  have hB9 : Below rC w ((((w3).setCell ⟨rR, 0, none⟩ (.int .i64 (x))).setCell ⟨rR, 1, none⟩ (.int .i64 (rt))).setCell ⟨rR, 2, none⟩ (.int .i64 (e))) := (((below_step hb9 (by omega) bb).setCell (by simp; omega) _).setCell (by simp; omega) _).setCell (by simp; omega) _
                  (repeat (first | go_skip | go_guarded | go_step))
                  generalize (World.setCell (World.setCell (World.setCell _ _ _) _ _) _ _) = w9 at k9 hB9 ⊢
                  clear t0 t1 t2 z0 z1 z2
                  have q0 : w9.cell? ⟨rR, 0, none⟩ = some (.int .i64 (x)) := k9.cell 0
                  have q1 : w9.cell? ⟨rR, 1, none⟩ = some (.int .i64 (rt)) := k9.cell 1
                  have q2 : w9.cell? ⟨rR, 2, none⟩ = some (.int .i64 (e)) := k9.cell 2
                  refine bodyPost_ret (v := .tuple #[.agg #[.int .i64 (x), .int .i64 (rt), .int .i64 (e)], .bool true]) (by simp [results, Tryz.results150, go_sem, q0, q1, q2]) rfl ?_
                  exact ⟨rfl, hrC ▸ hB9⟩
            · have HN : Hid (adR (adF A B X1 Y1 E1 n m T D g (e + 1)) = Res) := (by have h := HF2.out; rw [if_neg (fun h9 => hg1 h9.2.1)] at h; exact h)
              clear HF2
              go_wp2
              go_roundw
              case rel => exact ⟨e + 1, g, by go_num, by omega, by omega, HN, hbg⟩
              case measure => simp [intOf]; omega
        · obtain rfl : f = 0 := by omega
          have hRes := HF.out
          unfold adF adR at hRes
          subst hRes
          clear HF
          -- wr world, hbl its Below from W15, 0 x, 0 y, 0 e, false found
          go_upto_region 26 with (fail)
          have jR := kR.next hbl
          have z0 := jR.frozen 0
          have z1 := jR.frozen 1
          have z2 := jR.frozen 2
          have t0 : (wr).cell? ⟨rR, 0, none⟩ = some (.int .i64 0) := jR.cell 0
          have t1 : (wr).cell? ⟨rR, 1, none⟩ = some (.int .i64 0) := jR.cell 1
          have t2 : (wr).cell? ⟨rR, 2, none⟩ = some (.int .i64 0) := jR.cell 2
          have k9 := ((jR.set 0 (.int .i64 (0))).set 1 (.int .i64 (0))).set 2 (.int .i64 (0))
          have hB9 : Below rC w ((((wr).setCell ⟨rR, 0, none⟩ (.int .i64 (0))).setCell ⟨rR, 1, none⟩ (.int .i64 (0))).setCell ⟨rR, 2, none⟩ (.int .i64 (0))) := (((below_step hbl (by omega) bb).setCell (by simp; omega) _).setCell (by simp; omega) _).setCell (by simp; omega) _
          (repeat (first | go_skip | go_guarded | go_step))
          generalize (World.setCell (World.setCell (World.setCell _ _ _) _ _) _ _) = w9 at k9 hB9 ⊢
          clear t0 t1 t2 z0 z1 z2
          have q0 : w9.cell? ⟨rR, 0, none⟩ = some (.int .i64 (0)) := k9.cell 0
          have q1 : w9.cell? ⟨rR, 1, none⟩ = some (.int .i64 (0)) := k9.cell 1
          have q2 : w9.cell? ⟨rR, 2, none⟩ = some (.int .i64 (0)) := k9.cell 2
          refine bodyPost_ret (v := .tuple #[.agg #[.int .i64 (0), .int .i64 (0), .int .i64 (0)], .bool false]) (by simp [results, Tryz.results150, go_sem, q0, q1, q2]) rfl ?_
          exact ⟨rfl, hrC ▸ hB9⟩
end Go.Proofs.YtbcjlhbpgcjddaaGreatDoor

/- Odr -/
namespace Go.Proofs.YtbcjlhbpgcjddaaGreatDoor
open Go.RowKit

set_option maxHeartbeats 2000000 in
set_option maxRecDepth 100000 in
theorem c_addP (A B X1 Y1 E1 X2 Y2 E2 : Int) (hA : -1000 ≤ A ∧ A ≤ 1000) (hB : -10000 ≤ B ∧ B ≤ 10000) (hp : PtV A B X1 Y1 E1) (hq : PtV A B X2 Y2 E2) (w : World) :
    Calls Tryz.prog 150 #[.agg #[.int .i64 A, .int .i64 B], .agg #[.int .i64 X1, .int .i64 Y1, .int .i64 E1], .agg #[.int .i64 X2, .int .i64 Y2, .int .i64 E2]] w fun e w' =>
      e = .returned (adR (adP A B (X1, Y1, E1) (X2, Y2, E2))) ∧ Below w.heap.size w w' := by
  unfold adP
  simp only
  by_cases h1 : E1 = 0
  · rw [if_pos h1]
    subst h1
    clear hp hq
    go_enter Tryz.func150, Tryz.ntmps150
    go_wp2
    refine bodyPost_ret (v := .tuple #[.agg #[.int .i64 X2, .int .i64 Y2, .int .i64 E2], .bool true]) (by simp [results, Tryz.results150, go_sem]) rfl ⟨rfl, ?_⟩
    (repeat' (first | (with_reducible exact Below.refl _ _) | (with_reducible refine below_step (by assumption) ?_ ?_) | (with_reducible refine Below.alloc ?_ ?_ _) | (with_reducible refine Below.setCell ?_ ?_ _) | (with_reducible refine below_drewN ?_ _) | (with_reducible refine Below.drew ?_) | omega | (simp; omega) | (simp; done)))
  · rw [if_neg h1]
    by_cases h2 : E2 = 0
    · rw [if_pos h2]
      subst h2
      clear hp hq
      go_enter Tryz.func150, Tryz.ntmps150
      go_wp2
      refine bodyPost_ret (v := .tuple #[.agg #[.int .i64 X1, .int .i64 Y1, .int .i64 E1], .bool true]) (by simp [results, Tryz.results150, go_sem]) rfl ⟨rfl, ?_⟩
      (repeat' (first | (with_reducible exact Below.refl _ _) | (with_reducible refine below_step (by assumption) ?_ ?_) | (with_reducible refine Below.alloc ?_ ?_ _) | (with_reducible refine Below.setCell ?_ ?_ _) | (with_reducible refine below_drewN ?_ _) | (with_reducible refine Below.drew ?_) | omega | (simp; omega) | (simp; done)))
    · rw [if_neg h2]
      have fp : FinP A B X1 Y1 E1 := hp.resolve_left fun h => h1 h.2.2
      have fq : FinP A B X2 Y2 E2 := hq.resolve_left fun h => h2 h.2.2
      by_cases h3 : X1 = X2 ∧ Y1 = -Y2 ∧ E1 = E2
      · rw [if_pos h3]
        obtain ⟨rfl, rfl, rfl⟩ := h3
        have HOp := Lib.hid (fun W => c_opposite X1 Y2 E1 fq.2.2.2.1 W)
        clear hp hq fp fq
        have kP := ((Blk.new (w.alloc (.cells #[.int .i64 A, .int .i64 B] 45)) #[.int .i64 X1, .int .i64 (-Y2), .int .i64 E1] 41).alloc (.cells #[.int .i64 X1, .int .i64 Y2, .int .i64 E1] 41)).alloc (.cells #[.int .i64 0, .int .i64 0, .int .i64 0] 41)
        have kQ := (Blk.new ((w.alloc (.cells #[.int .i64 A, .int .i64 B] 45)).alloc (.cells #[.int .i64 X1, .int .i64 (-Y2), .int .i64 E1] 41)) #[.int .i64 X1, .int .i64 Y2, .int .i64 E1] 41).alloc (.cells #[.int .i64 0, .int .i64 0, .int .i64 0] 41)
        have kR := Blk.new (((w.alloc (.cells #[.int .i64 A, .int .i64 B] 45)).alloc (.cells #[.int .i64 X1, .int .i64 (-Y2), .int .i64 E1] 41)).alloc (.cells #[.int .i64 X1, .int .i64 Y2, .int .i64 E1] 41)) #[.int .i64 0, .int .i64 0, .int .i64 0] 41
        have hb0 : Below w.heap.size w ((((w.alloc (.cells #[.int .i64 A, .int .i64 B] 45)).alloc (.cells #[.int .i64 X1, .int .i64 (-Y2), .int .i64 E1] 41)).alloc (.cells #[.int .i64 X1, .int .i64 Y2, .int .i64 E1] 41)).alloc (.cells #[.int .i64 0, .int .i64 0, .int .i64 0] 41)) := ((((Below.refl _ _).alloc (Nat.le_refl _) _).alloc (by simp) _).alloc (by simp; omega) _).alloc (by simp; omega) _
        simp only [World.size_alloc] at kP kQ kR
        have hsz := hb0.size
        go_enter Tryz.func150, Tryz.ntmps150
        go_upto_region 1 with (fail)
        generalize (((w.alloc _).alloc _).alloc _).alloc _ = W at *
        have hRC : w.heap.size ≤ w.heap.size + 1 + 1 + 1 := by omega
        generalize w.heap.size + 1 + 1 + 1 = rR at *
        generalize w.heap.size + 1 + 1 = rQ at *
        generalize w.heap.size + 1 = rP at *
        generalize hrC : w.heap.size = rC at *
        have hrC2 : Hid (w.heap.size = rC) := hrC
        clear hrC
        have lP := kP.lt
        have lQ := kQ.lt
        have lR := kR.lt
        have p0 : W.cell? ⟨rP, 0, none⟩ = some (.int .i64 X1) := kP.cell 0
        have p1 : W.cell? ⟨rP, 1, none⟩ = some (.int .i64 (-Y2)) := kP.cell 1
        have p2 : W.cell? ⟨rP, 2, none⟩ = some (.int .i64 E1) := kP.cell 2
        have q0 : W.cell? ⟨rQ, 0, none⟩ = some (.int .i64 X1) := kQ.cell 0
        have q1 : W.cell? ⟨rQ, 1, none⟩ = some (.int .i64 Y2) := kQ.cell 1
        have q2 : W.cell? ⟨rQ, 2, none⟩ = some (.int .i64 E1) := kQ.cell 2
        go_upto_region 5 with (fail)
        (refine wp_region_clq (by kernel_rfl) (by kernel_rfl) ?_; (repeat (go_big_quiet_step ((go_at_call 174; exact Calls.quiet_cls Closed.true _ (HOp.out _))))); refine wpQuiet_nil ?_; intro w8 hb8; obtain ⟨hc8, hf8⟩ := bcell hb8; have hz8 := hb8.size; (try simp only [World.size_alloc] at hz8))
        clear p0 p1 p2 q0 q1 q2 lP lQ kP kQ HOp hc8 hf8
        have jR := kR.next hb8
        have z0 := jR.frozen 0
        have z1 := jR.frozen 1
        have z2 := jR.frozen 2
        have t0 : (w8).cell? ⟨rR, 0, none⟩ = some (.int .i64 0) := jR.cell 0
        have t1 : (w8).cell? ⟨rR, 1, none⟩ = some (.int .i64 0) := jR.cell 1
        have t2 : (w8).cell? ⟨rR, 2, none⟩ = some (.int .i64 0) := jR.cell 2
        have k9 := ((jR.set 0 (.int .i64 0)).set 1 (.int .i64 0)).set 2 (.int .i64 0)
        have hB9 : Below rC w ((((w8).setCell ⟨rR, 0, none⟩ (.int .i64 0)).setCell ⟨rR, 1, none⟩ (.int .i64 0)).setCell ⟨rR, 2, none⟩ (.int .i64 0)) := (((below_step hb8 hsz hb0).setCell (by simp; omega) _).setCell (by simp; omega) _).setCell (by simp; omega) _
        go_wp2
        generalize (World.setCell (World.setCell (World.setCell _ _ _) _ _) _ _) = w9 at k9 hB9 ⊢
        have q0 : w9.cell? ⟨rR, 0, none⟩ = some (.int .i64 0) := k9.cell 0
        have q1 : w9.cell? ⟨rR, 1, none⟩ = some (.int .i64 0) := k9.cell 1
        have q2 : w9.cell? ⟨rR, 2, none⟩ = some (.int .i64 0) := k9.cell 2
        refine bodyPost_ret (v := .tuple #[.agg #[.int .i64 0, .int .i64 0, .int .i64 0], .bool true]) (by simp [results, Tryz.results150, go_sem, q0, q1, q2]) rfl ?_
        exact ⟨rfl, hrC2.out ▸ hB9⟩
      · rw [if_neg h3]
        exact c_addFin A B X1 Y1 E1 X2 Y2 E2 hA hB fp fq h3 w
set_option maxHeartbeats 2000000 in
set_option maxRecDepth 100000 in
theorem c_orderOfPoint (A B X Y E : Int) (hA : -1000 ≤ A ∧ A ≤ 1000) (hB : -10000 ≤ B ∧ B ≤ 10000) (hp : PtV A B X Y E) (w : World) :
    Calls Tryz.prog 123 #[.agg #[.int .i64 A, .int .i64 B], .agg #[.int .i64 X, .int .i64 Y, .int .i64 E]] w fun e w' => e = .returned (odR (odV A B (X, Y, E))) ∧ Below w.heap.size w w' := by
  have HAdd := Lib.hid (fun (X1 Y1 E1 : Int) (h : PtV A B X1 Y1 E1) (W : World) => c_addP A B X1 Y1 E1 X Y E hA hB h hp W)
  have HOk := Lib.hid (fun (p r : Int × Int × Int) (h : PtV A B p.1 p.2.1 p.2.2) (hr : adP A B p (X, Y, E) = some r) => adP_ok hA hB h hp hr)
  have kC := ((Blk.new w #[.int .i64 A, .int .i64 B] 45).alloc (.cells #[.int .i64 X, .int .i64 Y, .int .i64 E] 41)).alloc (.cells #[.int .i64 0, .int .i64 0, .int .i64 0] 41)
  have kP := (Blk.new (w.alloc (.cells #[.int .i64 A, .int .i64 B] 45)) #[.int .i64 X, .int .i64 Y, .int .i64 E] 41).alloc (.cells #[.int .i64 0, .int .i64 0, .int .i64 0] 41)
  have kN := Blk.new ((w.alloc (.cells #[.int .i64 A, .int .i64 B] 45)).alloc (.cells #[.int .i64 X, .int .i64 Y, .int .i64 E] 41)) #[.int .i64 0, .int .i64 0, .int .i64 0] 41
  have hb0 : Below w.heap.size w (((w.alloc (.cells #[.int .i64 A, .int .i64 B] 45)).alloc (.cells #[.int .i64 X, .int .i64 Y, .int .i64 E] 41)).alloc (.cells #[.int .i64 0, .int .i64 0, .int .i64 0] 41)) := (((Below.refl _ _).alloc (Nat.le_refl _) _).alloc (by simp) _).alloc (by simp; omega) _
  simp only [World.size_alloc] at kP kN
  generalize hRes : odR (odV A B (X, Y, E)) = Res
  have HRes : Hid (odR (odF A B (X, Y, E) 12 1 (0, 0, 0)) = Res) := Lib.hid hRes
  clear hRes hp hA hB
  go_enter Tryz.func123, Tryz.ntmps123
  go_upto_region 2 with (fail)
  generalize ((w.alloc _).alloc _).alloc _ = W at *
  have hRC : w.heap.size ≤ w.heap.size + 1 + 1 := by omega
  have hPN : w.heap.size + 1 < w.heap.size + 1 + 1 := by omega
  have hCN : w.heap.size < w.heap.size + 1 + 1 := by omega
  generalize w.heap.size + 1 + 1 = rN at *
  generalize w.heap.size + 1 = rP at *
  generalize hrC : w.heap.size = rC at *
  have hrC2 : Hid (w.heap.size = rC) := hrC
  clear hrC
  have hsz := kN.lt
  go_wp2
  go_loopw [7] (fun x wr => ∃ (n : Int) (f : Nat) (x1 y1 e1 : Int), x = .int .i64 n ∧ (1 ≤ n ∧ n ≤ 13) ∧ n + f = 13 ∧ PtV A B x1 y1 e1 ∧ Hid (odR (odF A B (X, Y, E) f n (x1, y1, e1)) = Res) ∧ Blk rN #[.int .i64 x1, .int .i64 y1, .int .i64 e1] 41 wr ∧ Over [rN] W wr) (fun x _ => (13 - intOf x).toNat)
  case atStart => exact ⟨1, 12, 0, 0, 0, rfl, by omega, by omega, .inl ⟨rfl, rfl, rfl⟩, HRes, kN, Over.refl _ _⟩
  case round =>
    clear HRes
    obtain ⟨n, f, x1, y1, e1, rfl, hn, hf, hv, HF, jN, hO⟩ := hrel
    have hbw : Below rC w wr := hO.belowGe hb0 (by omega) (by simp; omega)
    by_cases hle : n ≤ 12
    · obtain ⟨g, rfl⟩ : ∃ g, f = g + 1 := ⟨f - 1, by omega⟩
      have jC := kC.over hO (by simp; omega)
      have jP := kP.over hO (by simp; omega)
      have jC0 : (wr).cell? ⟨rC, 0, none⟩ = some (.int .i64 A) := jC.cell 0; have jC1 : (wr).cell? ⟨rC, 1, none⟩ = some (.int .i64 B) := jC.cell 1; have jCl : rC < (wr).heap.size := jC.lt
      have jP0 : (wr).cell? ⟨rP, 0, none⟩ = some (.int .i64 X) := jP.cell 0; have jP1 : (wr).cell? ⟨rP, 1, none⟩ = some (.int .i64 Y) := jP.cell 1; have jP2 : (wr).cell? ⟨rP, 2, none⟩ = some (.int .i64 E) := jP.cell 2; have jPl : rP < (wr).heap.size := jP.lt
      have jN0 : (wr).cell? ⟨rN, 0, none⟩ = some (.int .i64 x1) := jN.cell 0; have jN1 : (wr).cell? ⟨rN, 1, none⟩ = some (.int .i64 y1) := jN.cell 1; have jN2 : (wr).cell? ⟨rN, 2, none⟩ = some (.int .i64 e1) := jN.cell 2; have jNl : rN < (wr).heap.size := jN.lt
      have hF := HF.out
      unfold odF at hF
      go_wp2_with fail
      refine (HAdd.out x1 y1 e1 hv _).mono ?_
      rintro e w1 ⟨rfl, hb1⟩
      have hO1 := hO.next hb1
      replace jN := jN.next hb1
      have hbw1 : Below rC w w1 := hO1.belowGe hb0 (by omega) (by simp; omega)
      clear jC0 jC1 jP0 jP1 jP2 jN0 jN1 jN2 jCl jPl jNl jC jP HAdd HF
      cases ha : adP A B (x1, y1, e1) (X, Y, E) with
      | none =>
        rw [ha] at hF
        simp only [odR] at hF
        subst hF
        simp only [adR]
        go_wp2
        refine bodyPost_ret (v := .tuple #[.int .i64 0, .bool false]) (by simp [results, Tryz.results123, go_sem]) rfl ⟨rfl, ?_⟩
        rw [hrC2.out]
        refine (hbw1.alloc ?_ _)
        have := hO1.size; omega
      | some r =>
        have hr := HOk.out (x1, y1, e1) r hv ha
        rw [ha] at hF
        obtain ⟨x2, y2, e2⟩ := r
        simp only at hF hr
        simp only [adR]
        clear ha HOk
        have kX := Blk.new w1 #[.int .i64 x2, .int .i64 y2, .int .i64 e2] 41
        replace jN := jN.alloc (.cells #[.int .i64 x2, .int .i64 y2, .int .i64 e2] 41)
        have hO2 := hO1.alloc (.cells #[.int .i64 x2, .int .i64 y2, .int .i64 e2] 41)
        have hbw2 := hbw1.alloc (show rC ≤ w1.heap.size by have := hO1.size; omega) (.cells #[.int .i64 x2, .int .i64 y2, .int .i64 e2] 41)
        go_upto_region 6 with (fail)
        generalize w1.alloc _ = W2 at *
        have hne : rN ≠ w1.heap.size := by have := hO1.size; omega
        generalize w1.heap.size = rX at *
        have hx1 := kX.lt
        have hx2 := jN.lt
        have kX0 : (W2).cell? ⟨rX, 0, none⟩ = some (.int .i64 x2) := kX.cell 0; have kX1 : (W2).cell? ⟨rX, 1, none⟩ = some (.int .i64 y2) := kX.cell 1; have kX2 : (W2).cell? ⟨rX, 2, none⟩ = some (.int .i64 e2) := kX.cell 2; have kXl : rX < (W2).heap.size := kX.lt
        by_cases he : e2 = 0
        · rw [if_pos he] at hF
          simp only [odR] at hF
          subst hF
          go_wp2
          refine bodyPost_ret (v := .tuple #[.int .i64 n, .bool true]) (by simp [results, Tryz.results123, go_sem]) rfl ⟨rfl, ?_⟩
          rw [hrC2.out]
          exact hbw2
        · rw [if_neg he] at hF
          have HF2 : Hid (odR (odF A B (X, Y, E) g (n + 1) (x2, y2, e2)) = Res) := hF
          clear hF
          have jN0 : (W2).cell? ⟨rN, 0, none⟩ = some (.int .i64 x1) := jN.cell 0; have jN1 : (W2).cell? ⟨rN, 1, none⟩ = some (.int .i64 y1) := jN.cell 1; have jN2 : (W2).cell? ⟨rN, 2, none⟩ = some (.int .i64 e1) := jN.cell 2; have jNl : rN < (W2).heap.size := jN.lt
          have z0 := jN.frozen 0
          have z1 := jN.frozen 1
          have z2 := jN.frozen 2
          have k9 := ((jN.set 0 (.int .i64 x2)).set 1 (.int .i64 y2)).set 2 (.int .i64 e2)
          have hO9 : Over [rN] W (((W2.setCell ⟨rN, 0, none⟩ (.int .i64 x2)).setCell ⟨rN, 1, none⟩ (.int .i64 y2)).setCell ⟨rN, 2, none⟩ (.int .i64 e2)) := ((hO2.setCell (.inr (by simp)) _).setCell (.inr (by simp)) _).setCell (.inr (by simp)) _
          go_wp2
          go_roundw
          case rel => exact ⟨n + 1, g, x2, y2, e2, by go_num, by omega, by omega, hr, HF2, k9, hO9⟩
          case measure => simp [intOf]; omega
    · obtain rfl : f = 0 := by omega
      have hRes := HF.out
      unfold odF odR at hRes
      subst hRes
      clear HF
      go_wp2
      refine bodyPost_ret (v := .tuple #[.int .i64 0, .bool false]) (by simp [results, Tryz.results123, go_sem]) rfl ⟨rfl, ?_⟩
      rw [hrC2.out]
      exact hbw
end Go.Proofs.YtbcjlhbpgcjddaaGreatDoor

/- Tpt -/
namespace Go.Proofs.YtbcjlhbpgcjddaaGreatDoor
open Go.RowKit

theorem own_fresh {v' v : Value} {n m : Nat} (h : v'.ownBlock = v.ownBlock ∨ ∃ k, v'.ownBlock = some k ∧ m ≤ k) (hv : ∀ k, v.ownBlock = some k → k = n ∨ m ≤ k) : ∀ k, v'.ownBlock = some k → k = n ∨ m ≤ k := fun k hk => by
  rcases h with h | ⟨j, h, hj⟩
  · exact hv k (h ▸ hk)
  · rw [h] at hk; cases hk; exact .inr hj
theorem take_filter {L : List (Int × Int × Int)} {P : Int × Int × Int → Bool} {k : Nat} (h : k < L.length) : (L.take (k + 1)).filter P = (L.take k).filter P ++ (if P L[k] then [L[k]] else []) := by
  rw [List.take_succ_eq_append_getElem h, List.filter_append]
  congr 1
  simp only [List.filter_cons, List.filter_nil]
set_option maxHeartbeats 2000000 in
set_option maxRecDepth 100000 in
theorem c_torsionPoints (A B : Int) (hA : -1000 ≤ A ∧ A ≤ 1000) (hB : -10000 ≤ B ∧ B ≤ 10000) (w : World) :
    Calls Tryz.prog 67 #[.agg #[.int .i64 A, .int .i64 B]] w (PtsPost w (toL A B)) := by
  have HCd := Lib.hid (fun W => c_candidates A B hA hB W)
  have HOd := Lib.hid (fun (X Y E : Int) (h : PtV A B X Y E) (W : World) => c_orderOfPoint A B X Y E hA hB h W)
  have HFn := Lib.hid (fun (p : Int × Int × Int) (h : p ∈ cdL A B) => cd_fin hA hB h)
  have HLl : Hid ((cdL A B).length ≤ 12002) := cdF_len A B 6001 (-3000)
  have HTo : Hid (toL A B = (0, 0, 0) :: (cdL A B).filter fun p => (odV A B p).isSome) := rfl
  generalize toL A B = R at HTo ⊢
  generalize cdL A B = L at HTo HLl HFn HCd
  have kC := (Blk.new w #[.int .i64 A, .int .i64 B] 45).alloc (.cells #[.int .i64 0, .int .i64 0, .int .i64 0] 41)
  have kS := OwnsQ.built (w.alloc (.cells #[.int .i64 A, .int .i64 B] 45)) (0, 0, 0)
  have hb0 : Below w.heap.size w ((w.alloc (.cells #[.int .i64 A, .int .i64 B] 45)).alloc (.cells #[.int .i64 0, .int .i64 0, .int .i64 0] 41)) := ((Below.refl _ _).alloc (Nat.le_refl _) _).alloc (by simp) _
  have hsW : ((w.alloc (.cells #[.int .i64 A, .int .i64 B] 45)).alloc (.cells #[.int .i64 0, .int .i64 0, .int .i64 0] 41)).heap.size = w.heap.size + 1 + 1 := by simp
  simp only [World.size_alloc] at kS
  clear hA hB
  go_enter Tryz.func67, Tryz.ntmps67
  go_upto_region 2 with (fail)
  generalize (w.alloc _).alloc _ = W at *
  generalize hrS : w.heap.size + 1 = rS at *
  generalize hrC : w.heap.size = rC at *
  have hrC2 : Hid (w.heap.size = rC) := hrC
  have hS1 : Hid (rC + 1 = rS) := hrS
  have hW1 : Hid (W.heap.size = rS + 1) := hsW
  have hCS : rC < rS := by omega
  have hSW : rS < W.heap.size := by omega
  clear hrC hrS hsW
  have kC0 : (W).cell? ⟨rC, 0, none⟩ = some (.int .i64 A) := kC.cell 0; have kC1 : (W).cell? ⟨rC, 1, none⟩ = some (.int .i64 B) := kC.cell 1; have kCl : rC < (W).heap.size := kC.lt
  go_wp2_with fail
  refine (HCd.out _).mono ?_
  rintro e w1 ⟨vl, rfl, ol, hb1⟩
  have hz1 := hb1.size
  have jS := kS.below hb1
  have jC := kC.next hb1
  obtain ⟨la, lcap, rfl, hform⟩ := id ol.form
  have HLt := Lib.hid ol.lt
  clear kC0 kC1 kCl hform HCd
  go_wp2
  go_loopw [3, 13] (fun v x wr => ∃ k : Nat, k ≤ L.length ∧ x = .int .i64 (k : Int) ∧ OwnsQ wr rS v ((0, 0, 0) :: (L.take k).filter fun p => (odV A B p).isSome) ∧ (∀ j, v.ownBlock = some j → j = rS ∨ w1.heap.size ≤ j) ∧ OwnsQ wr W.heap.size (.slice la L.length lcap) L ∧ Below rS w1 wr) (fun _ x _ => L.length - (intOf x).toNat)
  case atStart => exact ⟨0, Nat.zero_le _, rfl, jS, fun j hj => .inl (by simpa [Value.ownBlock] using hj.symm), ol, Below.refl _ _⟩
  case round =>
    obtain ⟨k, hk, rfl, ho, hv, hl, hbr⟩ := hrel
    have hzr := hbr.size
    have hLl := HLl.out
    have mC : Blk rC #[.int .i64 A, .int .i64 B] 45 wr := (hbr.block rC hCS).trans jC
    by_cases hlt : k < L.length
    · have ol2 := Lib.hid hl
      obtain ⟨a', cap', hve, hf⟩ := hl.form
      obtain ⟨g, hga, q1, q2, q3, hgl, _⟩ := hf k hlt
      obtain ⟨rfl, rfl⟩ : la = a' ∧ lcap = cap' := by simp only [Value.slice.injEq] at hve; exact ⟨hve.1, hve.2.2⟩
      subst hga
      have hfin := HFn.out L[k] (List.getElem_mem hlt)
      have HTk := Lib.hid (take_filter (P := fun p => (odV A B p).isSome) hlt)
      have hlen : ((0, 0, 0) :: (L.take k).filter fun p => (odV A B p).isSome).length < 1000000000000 := by
        have h1 := List.length_filter_le (fun p => (odV A B p).isSome) (L.take k)
        have h2 := HLl.out
        rw [List.length_take] at h1
        simp only [List.length_cons]
        omega
      clear hf hve hl
      generalize L[k] = p at q1 q2 q3 hfin HTk
      obtain ⟨x, y, e⟩ := p
      simp only at q1 q2 q3 hfin HTk
      generalize hM : (0, 0, 0) :: (L.take k).filter (fun p => (odV A B p).isSome) = M at ho hlen
      have HM := Lib.hid hM
      clear hM
      have mC0 : (wr).cell? ⟨rC, 0, none⟩ = some (.int .i64 A) := mC.cell 0; have mC1 : (wr).cell? ⟨rC, 1, none⟩ = some (.int .i64 B) := mC.cell 1; have mCl : rC < (wr).heap.size := mC.lt
      have kX := Blk.new wr #[.int .i64 x, .int .i64 y, .int .i64 e] 41
      have hb2 : Below wr.heap.size wr (wr.alloc (.cells #[.int .i64 x, .int .i64 y, .int .i64 e] 41)) := (Below.refl _ _).alloc (Nat.le_refl _) _
      go_upto_region 5 with (fail)
      replace mC := mC.next hb2
      replace ho := ho.below hb2
      have ol3 := Lib.hid (ol2.out.below hb2)
      have hbr2 : Below rS w1 (wr.alloc (.cells #[.int .i64 x, .int .i64 y, .int .i64 e] 41)) := hbr.trans (hb2.mono (by omega))
      have hz2 : (wr.alloc (.cells #[.int .i64 x, .int .i64 y, .int .i64 e] 41)).heap.size = wr.heap.size + 1 := by simp
      clear mC0 mC1 mCl q1 q2 q3 hgl ol2 hb2 hbr
      generalize wr.alloc _ = W2 at *
      generalize wr.heap.size = rX at *
      have mC0 : (W2).cell? ⟨rC, 0, none⟩ = some (.int .i64 A) := mC.cell 0; have mC1 : (W2).cell? ⟨rC, 1, none⟩ = some (.int .i64 B) := mC.cell 1; have mCl : rC < (W2).heap.size := mC.lt
      have kX0 : (W2).cell? ⟨rX, 0, none⟩ = some (.int .i64 x) := kX.cell 0; have kX1 : (W2).cell? ⟨rX, 1, none⟩ = some (.int .i64 y) := kX.cell 1; have kX2 : (W2).cell? ⟨rX, 2, none⟩ = some (.int .i64 e) := kX.cell 2; have kXl : rX < (W2).heap.size := kX.lt
      go_wp2_with fail
      refine (HOd.out x y e (.inr hfin) _).mono ?_
      rintro e' w3 ⟨rfl, hb3⟩
      have hbr3 : Below rS w1 w3 := hbr2.trans (hb3.mono (by omega))
      replace ho := ho.below hb3
      have ol4 := Lib.hid (ol3.out.below hb3)
      replace kX := kX.next hb3
      have hz3 := hb3.size
      clear mC0 mC1 mCl kX0 kX1 kX2 kXl ol3 mC hbr2
      cases hod : odV A B (x, y, e) with
      | none =>
        have HT : Hid ((0, 0, 0) :: (L.take (k + 1)).filter (fun p => (odV A B p).isSome) = M) := Lib.hid (by rw [HTk.out, hod, ← HM.out]; simp)
        simp only [odR]
        clear HTk HM hod
        go_wp2
        go_roundw
        case rel => exact ⟨k + 1, by omega, by go_num, by rw [HT.out]; exact ho, hv, ol4.out, hbr3⟩
        case measure => simp [intOf]; omega
      | some n =>
        have HT : Hid ((0, 0, 0) :: (L.take (k + 1)).filter (fun p => (odV A B p).isSome) = M ++ [(x, y, e)]) := Lib.hid (by rw [HTk.out, hod, ← HM.out]; simp)
        simp only [odR]
        clear HTk HM hod
        have kX0 : (w3).cell? ⟨rX, 0, none⟩ = some (.int .i64 x) := kX.cell 0; have kX1 : (w3).cell? ⟨rX, 1, none⟩ = some (.int .i64 y) := kX.cell 1; have kX2 : (w3).cell? ⟨rX, 2, none⟩ = some (.int .i64 e) := kX.cell 2; have kXl : rX < (w3).heap.size := kX.lt
        have hrs3 : rS ≤ w3.heap.size := by omega
        have H3 := Lib.hid ho
        have HV := Lib.hid hv
        have H4 := Lib.hid hlen
        clear ho hv hlen
        go_wp2_with (at_builtin; refine wpList_appQ1 (p := (x, y, e)) rfl _ _ rfl rS _ _ rfl H3.out rfl H4.out hrs3 ?_; intro v' w4 ho4 hb4 hg4 hat)
        have hbr4 : Below rS w1 w4 := hbr3.trans hb4
        have hv4 := own_fresh (hat.imp id fun ⟨j, h1, h2⟩ => ⟨j, h1, show w1.heap.size ≤ j by omega⟩) HV.out
        have ol5 : OwnsQ w4 W.heap.size (.slice (some ⟨g, 0, none⟩) L.length lcap) L := by
          refine World.ownsRow.kept (ol4.out.below ((Below.refl _ _).alloc (Nat.le_refl _) _)) hg4 ?_
          refine .inr fun e' => ?_
          have h1 := HLt.out g rfl
          have h2 := HV.out g e'.symm
          have h3 := hW1.out
          omega
        clear hg4 hat
        go_wp2
        go_roundw
        case rel => exact ⟨k + 1, by omega, by go_num, by rw [HT.out]; exact ho4, hv4, ol5, hbr4⟩
        case measure => simp [intOf]; omega
    · obtain rfl : k = L.length := by omega
      rw [List.take_length, ← HTo.out] at ho
      go_wp2
      refine bodyPost_ret (v := u3) (by simp [results, Tryz.results67, go_sem]) rfl ?_
      exact ⟨u3, rfl, ho.le (by rw [hrC2.out]; omega), hrC2.out ▸ (hb0.trans ((hb1.mono (by omega)).trans (hbr.mono (by omega))))⟩
end Go.Proofs.YtbcjlhbpgcjddaaGreatDoor

/- Tix -/
namespace Go.Proofs.YtbcjlhbpgcjddaaGreatDoor
open Go.RowKit

theorem not_in_take {L : List (Int × Int × Int)} {p : Int × Int × Int} {k : Nat} (h : k < L.length) (hn : p ∉ L.take k) (hne : L[k] ≠ p) : p ∉ L.take (k + 1) := by
  rw [List.take_succ_eq_append_getElem h, List.mem_append]
  rintro (h1 | h1)
  · exact hn h1
  · exact hne (List.mem_singleton.1 h1).symm
set_option maxHeartbeats 2000000 in
set_option maxRecDepth 100000 in
theorem c_indexQ (base : Nat) (vl : Value) (L : List (Int × Int × Int)) (X Y E : Int) (hL : L.length ≤ 100000000) (w : World) (ho : OwnsQ w base vl L) :
    Calls Tryz.prog 121 #[vl, .agg #[.int .i64 X, .int .i64 Y, .int .i64 E]] w fun e w' => ∃ r : Int, e = .returned (.int .i64 r) ∧ -1 ≤ r ∧ (decide (0 ≤ r) = decide ((X, Y, E) ∈ L)) ∧ Below w.heap.size w w' := by
  obtain ⟨la, lcap, rfl, _⟩ := ho.form
  have kV := Blk.new w #[.int .i64 X, .int .i64 Y, .int .i64 E] 41
  have hb0 : Below w.heap.size w (w.alloc (.cells #[.int .i64 X, .int .i64 Y, .int .i64 E] 41)) := (Below.refl _ _).alloc (Nat.le_refl _) _
  replace ho := ho.below hb0
  go_enter Tryz.func121, Tryz.ntmps121
  go_upto_region 1 with (fail)
  generalize w.alloc _ = W at *
  generalize hrC : w.heap.size = rC at *
  have hrC2 : Hid (w.heap.size = rC) := hrC
  clear hrC
  have hsz := kV.lt
  go_wp2
  go_loopw [8] (fun x wr => ∃ k : Nat, k ≤ L.length ∧ x = .int .i64 (k : Int) ∧ (X, Y, E) ∉ L.take k ∧ Below W.heap.size W wr) (fun x _ => L.length - (intOf x).toNat)
  case atStart => exact ⟨0, Nat.zero_le _, rfl, by simp, Below.refl _ _⟩
  case round =>
    obtain ⟨k, hk, rfl, hno, hbr⟩ := hrel
    have hzr := hbr.size
    by_cases hlt : k < L.length
    · obtain ⟨a', cap', hve, hf⟩ := (ho.below hbr).form
      obtain ⟨g, hga, q1, q2, q3, hgl, _⟩ := hf k hlt
      obtain ⟨rfl, rfl⟩ : la = a' ∧ lcap = cap' := by simp only [Value.slice.injEq] at hve; exact ⟨hve.1, hve.2.2⟩
      subst hga
      have HNo := Lib.hid (not_in_take hlt hno)
      have HIn : Hid (L[k] = (X, Y, E) → (X, Y, E) ∈ L) := Lib.hid (fun h => h ▸ List.getElem_mem hlt)
      clear hf hve
      generalize L[k] = p at q1 q2 q3 HNo HIn
      obtain ⟨x, y, e⟩ := p
      simp only at q1 q2 q3
      have jV := kV.next hbr
      have jV0 : (wr).cell? ⟨rC, 0, none⟩ = some (.int .i64 X) := jV.cell 0; have jV1 : (wr).cell? ⟨rC, 1, none⟩ = some (.int .i64 Y) := jV.cell 1; have jV2 : (wr).cell? ⟨rC, 2, none⟩ = some (.int .i64 E) := jV.cell 2; have jVl : rC < (wr).heap.size := jV.lt
      go_upto_region 4 with (fail)
      by_cases hx : X = x
      · by_cases hy : Y = y
        · by_cases he : E = e
          · subst hx; subst hy; subst he
            have hin := HIn.out rfl
            (refine wp_region_clq (by kernel_rfl) (by kernel_rfl) ?_; (repeat (go_big_quiet_step (fail))); refine wpQuiet_nil ?_; intro w8 hb8; obtain ⟨hc8, hf8⟩ := bcell hb8; have hz8 := hb8.size; (try simp only [World.size_alloc] at hz8))
            go_wp2
            refine bodyPost_ret (v := .int .i64 (k : Int)) (by simp [results, Tryz.results121, go_sem]) rfl ?_
            refine ⟨k, rfl, by omega, by omega, ?_⟩
            exact hrC2.out ▸ (hb0.trans ((hbr.trans (hb8.mono hzr)).mono (by omega)))
          · (refine wp_region_clq (by kernel_rfl) (by kernel_rfl) ?_; (repeat (go_big_quiet_step (fail))); refine wpQuiet_nil ?_; intro w8 hb8; obtain ⟨hc8, hf8⟩ := bcell hb8; have hz8 := hb8.size; (try simp only [World.size_alloc] at hz8))
            go_wp2
            go_roundw
            case rel => exact ⟨k + 1, by omega, by go_num, HNo.out (by rintro ⟨rfl, rfl, rfl⟩; exact he rfl), hbr.trans (hb8.mono hzr)⟩
            case measure => simp [intOf]; omega
        · (refine wp_region_clq (by kernel_rfl) (by kernel_rfl) ?_; (repeat (go_big_quiet_step (fail))); refine wpQuiet_nil ?_; intro w8 hb8; obtain ⟨hc8, hf8⟩ := bcell hb8; have hz8 := hb8.size; (try simp only [World.size_alloc] at hz8))
          go_wp2
          go_roundw
          case rel => exact ⟨k + 1, by omega, by go_num, HNo.out (by rintro ⟨rfl, rfl, rfl⟩; exact hy rfl), hbr.trans (hb8.mono hzr)⟩
          case measure => simp [intOf]; omega
      · (refine wp_region_clq (by kernel_rfl) (by kernel_rfl) ?_; (repeat (go_big_quiet_step (fail))); refine wpQuiet_nil ?_; intro w8 hb8; obtain ⟨hc8, hf8⟩ := bcell hb8; have hz8 := hb8.size; (try simp only [World.size_alloc] at hz8))
        go_wp2
        go_roundw
        case rel => exact ⟨k + 1, by omega, by go_num, HNo.out (by rintro ⟨rfl, rfl, rfl⟩; exact hx rfl), hbr.trans (hb8.mono hzr)⟩
        case measure => simp [intOf]; omega
    · obtain rfl : k = L.length := by omega
      rw [List.take_length] at hno
      go_wp2
      refine bodyPost_ret (v := .int .i64 (-1)) (by simp [results, Tryz.results121, go_sem]) rfl ?_
      refine ⟨-1, rfl, by omega, by simp [hno], ?_⟩
      exact hrC2.out ▸ (hb0.trans (hbr.mono (by omega)))
set_option maxHeartbeats 2000000 in
theorem c_containsQ (base : Nat) (vl : Value) (L : List (Int × Int × Int)) (X Y E : Int) (hL : L.length ≤ 100000000) (w : World) (ho : OwnsQ w base vl L) :
    Calls Tryz.prog 66 #[vl, .agg #[.int .i64 X, .int .i64 Y, .int .i64 E]] w fun e w' => e = .returned (.bool (decide ((X, Y, E) ∈ L))) ∧ Below w.heap.size w w' := by
  have hb0 : Below w.heap.size w (w.alloc (.cells #[.int .i64 X, .int .i64 Y, .int .i64 E] 41)) := (Below.refl _ _).alloc (Nat.le_refl _) _
  have HIx := Lib.hid (fun W hW => c_indexQ base vl L X Y E hL W (ho.below hW))
  go_enter Tryz.func66, Tryz.ntmps66
  go_wp2_with fail
  refine (HIx.out _ hb0).mono ?_
  rintro e w1 ⟨r, rfl, hr, hd, hb1⟩
  have hb2 := below_step hb1 hb0.size hb0
  clear hb1
  go_wp2
  go_ret
  exact ⟨rfl, hb2⟩
theorem to_len (A B : Int) : (toL A B).length ≤ 100000000 := by
  unfold toL cdL
  have h1 := List.length_filter_le (fun p => (odV A B p).isSome) (cdF A B 6001 (-3000))
  have h2 := cdF_len A B 6001 (-3000)
  simp only [List.length_cons]
  omega
set_option maxHeartbeats 2000000 in
set_option maxRecDepth 100000 in
theorem c_IsTorsionPoint (A B X Y E : Int) (hC : curveB A B = true) (hp : ptF A B X Y E = true) (w : World) :
    Calls Tryz.prog 19 #[.agg #[.int .i64 A, .int .i64 B], .agg #[.int .i64 X, .int .i64 Y, .int .i64 E]] w fun e w' => e = .returned (.tuple #[.bool (decide ((X, Y, E) ∈ toL A B)), .bool true]) ∧ Below w.heap.size w w' := by
  obtain ⟨hA, hB⟩ : (-1000 ≤ A ∧ A ≤ 1000) ∧ (-10000 ≤ B ∧ B ≤ 10000) := by
    unfold curveB at hC
    simp only [Bool.and_eq_true] at hC
    exact ⟨inB_true hC.1.1, inB_true hC.1.2⟩
  have HP := Lib.hid (fun W => c_isPoint A B X Y E hC W)
  rw [hp] at HP
  have HT := Lib.hid (fun W => c_torsionPoints A B hA hB W)
  have HLen := Lib.hid (to_len A B)
  clear hC hp
  generalize toL A B = L at *
  have kC := (Blk.new w #[.int .i64 A, .int .i64 B] 45).alloc (.cells #[.int .i64 X, .int .i64 Y, .int .i64 E] 41)
  have kP := Blk.new (w.alloc (.cells #[.int .i64 A, .int .i64 B] 45)) #[.int .i64 X, .int .i64 Y, .int .i64 E] 41
  have hb0 : Below w.heap.size w ((w.alloc (.cells #[.int .i64 A, .int .i64 B] 45)).alloc (.cells #[.int .i64 X, .int .i64 Y, .int .i64 E] 41)) := ((Below.refl _ _).alloc (Nat.le_refl _) _).alloc (by simp) _
  simp only [World.size_alloc] at kP
  go_enter Tryz.func19, Tryz.ntmps19
  go_wp2_with fail
  refine (HP.out _).mono ?_
  rintro e w1 ⟨rfl, hb1⟩
  have hb2 := below_step hb1 hb0.size hb0
  replace kC := kC.next hb1
  replace kP := kP.next hb1
  clear hb1
  have kC0 : (w1).cell? ⟨w.heap.size, 0, none⟩ = some (.int .i64 A) := kC.cell 0; have kC1 : (w1).cell? ⟨w.heap.size, 1, none⟩ = some (.int .i64 B) := kC.cell 1; have kCl : w.heap.size < (w1).heap.size := kC.lt
  have kP0 : (w1).cell? ⟨w.heap.size + 1, 0, none⟩ = some (.int .i64 X) := kP.cell 0; have kP1 : (w1).cell? ⟨w.heap.size + 1, 1, none⟩ = some (.int .i64 Y) := kP.cell 1; have kP2 : (w1).cell? ⟨w.heap.size + 1, 2, none⟩ = some (.int .i64 E) := kP.cell 2; have kPl : w.heap.size + 1 < (w1).heap.size := kP.lt
  go_upto_region 3 with (fail)
  refine wp_region_cls [] (fun _ => false) (fun _ => True) (fun _ => True) (by kernel_rfl) (trivial) ?_
  apply wpAnyF_hd ⟨w1.drew, (Over.refl _ _).drew, trivial⟩ [true, false, true] 4 (Closed.true) (fun _ _ => trivial) (by kernel_rfl) (by kernel_rfl) (by kernel_rfl) (by kernel_rfl) (by simp)
  · intro E hE hEN hEn; (repeat (first | (refine wpHL_take ?_; go_big_quiet_step (fail); refine wpQuiet_nil ?_) | refine wpHL_skip ?_)); exact wpHL_end rfl
  refine wpAnyF_ready [1] 3 (by kernel_rfl) (by kernel_rfl) (by simp) (AllF.cons ?_ AllF.nil)
  refine stepC_calle (some 11) (fun u => fun w' => OwnsQ w' 0 u L) (by rfl) (by rfl) (by rfl) (fun _ => by go_simp) (fun u => fun _ _ h hb => h.below hb) (fun w' hO hD => (HT.out w').mono fun e w2 ⟨v, h1, h2, h3⟩ => ⟨v, h1, .of_below h3, h2.le (by omega)⟩) (fun u hne => ?_)
  simp only [Act.put, List.setIfInBounds_toArray, List.set_cons_succ, List.set_cons_zero]
  refine wpAnyF_ready [3] 2 (by kernel_rfl) (by kernel_rfl) (by simp) (AllF.cons ?_ AllF.nil)
  refine stepC_call (v := .bool (decide ((X, Y, E) ∈ L))) (some 13) (fun _ => True) (by rfl) (by rfl) (by rfl) (fun _ => by go_simp) (Closed.true) (fun w' hO hD => (c_containsQ 0 u L X Y E HLen.out w' hD).mono fun e w2 h => ⟨h.1, .of_below h.2, trivial⟩) (fun hne => ?_)
  simp only [Act.put, List.setIfInBounds_toArray, List.set_cons_succ, List.set_cons_zero]
  apply wpAnyF_hd hne [false, false, false, false, true, true] 0 (Closed.true) (fun _ _ => trivial) (by kernel_rfl) (by kernel_rfl) (by kernel_rfl) (by kernel_rfl) (by simp)
  · intro E hE hEN hEn; (repeat (first | (refine wpHL_take ?_; go_big_quiet_step (fail); refine wpQuiet_nil ?_) | refine wpHL_skip ?_)); exact wpHL_end rfl
  refine wpAnyF_done (by kernel_rfl) (fun Wz hOz hDz => NoPanic.normal ?_) _
  try dsimp only
  have hbz := below_step hOz.below hb2.size hb2
  clear hOz hDz kC0 kC1 kP0 kP1 kP2
  go_wp2
  refine bodyPost_ret (v := .tuple #[.bool (decide ((X, Y, E) ∈ L)), .bool true]) (by simp [results, Tryz.results19, go_sem]) rfl ?_
  exact ⟨rfl, hbz⟩
end Go.Proofs.YtbcjlhbpgcjddaaGreatDoor

/- DrawT -/
namespace Go.Proofs.YtbcjlhbpgcjddaaGreatDoor
open Go.RowKit

/-- a cursor made anew -/
theorem Cur.new {v : Value} {xs : List Int} {w : World} (h : RdB w w.heap.size v xs) : Cur w.heap.size w.heap.size v xs 0 (w.alloc (.cells #[v, .int .i64 0, .int .u64 0] 73)) :=
  ⟨Nat.le_refl _, by simp, h.below ((Below.refl _ _).alloc (Nat.le_refl _) _) (Nat.le_refl _), 0, 0, Nat.le_refl _, by omega, by omega, Blk.new w _ _⟩
theorem below_over {w w' : World} {o : Obj} (h : Over [w.heap.size] (w.alloc o) w') : Below w.heap.size w w' :=
  h.belowGe ((Below.refl _ _).alloc (Nat.le_refl _) o) (by simp) (by simp)
def OnePost (lo hi : Int) (w : World) (e : Ending) (w' : World) : Prop := ∃ p : Int, e = .returned (.int .i64 p) ∧ lo ≤ p ∧ p ≤ hi ∧ Below w.heap.size w w'
def TwoPost (w : World) (e : Ending) (w' : World) : Prop := ∃ p n : Int, e = .returned (.tuple #[.int .i64 p, .int .i64 n]) ∧ 0 ≤ p ∧ p ≤ 37 ∧ -9223372036854775808 ≤ n ∧ n ≤ 9223372036854775807 ∧ Below w.heap.size w w'
end Go.Proofs.YtbcjlhbpgcjddaaGreatDoor

/- Dr -/
namespace Go.Proofs.YtbcjlhbpgcjddaaGreatDoor
open Go.RowKit

theorem RdB.set {w : World} {B S : Nat} {v x : Value} {xs : List Int} {o : Nat} (h : RdB w B v xs) (hS : B ≤ S) : RdB (w.setCell ⟨S, o, none⟩ x) B v xs := by
  obtain ⟨a, cap, hv, hm, hc⟩ := h
  refine ⟨a, cap, hv, hm, fun i hi => ?_⟩
  obtain ⟨g, o', ha, h1, h2, h3, h4⟩ := hc i hi
  refine ⟨g, o', ha, ?_, h2, h3, h4⟩
  exact (World.cell?_of_block (w := w) (Below.heap_setCell _ _ _ _ (by show g ≠ S; omega))).trans h1
theorem Over.sub {ex ex' : List Nat} {W w : World} (h : Over ex W w) (hs : ∀ x ∈ ex, x ∈ ex') : Over ex' W w := ⟨h.os, h.tape, h.output, h.size, fun k hk hn => h.block k hk fun hm => hn (hs k hm)⟩
/-- at world w at most n numbers were drawn at cursor k since w0; the blocks bl are new since then, and known whole -/
structure Dr (B k : Nat) (v : Value) (xs : List Int) (n : Nat) (w0 : World) (bl : List (Nat × Array Value × TypeId)) (w : World) : Prop where
  cur : Cur B k v xs n w
  ovr : Over [k] w0 w
  mem : MemL bl w
  far : ∀ b ∈ bl, b.1 ≠ k ∧ w0.heap.size ≤ b.1 ∧ B ≤ b.1
  dif : bl.Pairwise (fun a b => a.1 ≠ b.1)
section
variable {B k n : Nat} {v : Value} {xs : List Int} {w0 w w1 : World} {bl : List (Nat × Array Value × TypeId)} {S : Nat} {cs : Array Value} {T : TypeId}
theorem Dr.start (h : Cur B k v xs n w) : Dr B k v xs n w [] w := ⟨h, Over.refl _ _, (fun _ hx => (List.not_mem_nil hx).elim), (fun _ hb => (List.not_mem_nil hb).elim), List.Pairwise.nil⟩
theorem Dr.skip (d : Dr B k v xs n w0 bl w) (o : Obj) : Dr B k v xs n w0 bl (w.alloc o) :=
  ⟨d.cur.below ((Below.refl _ _).alloc (Nat.le_refl _) _), d.ovr.alloc o, fun x hx => (d.mem x hx).alloc o, d.far, d.dif⟩
theorem Dr.alloc (d : Dr B k v xs n w0 bl w) (cs : Array Value) (T : TypeId) : Dr B k v xs n w0 ((w.heap.size, cs, T) :: bl) (w.alloc (.cells cs T)) := by
  have hk := d.cur.2.1
  have hB := d.cur.1
  have hs := d.ovr.size
  refine ⟨(d.skip _).cur, (d.skip _).ovr, fun x hx => ?_, fun b hb => ?_, ?_⟩
  · rcases List.mem_cons.1 hx with rfl | hx
    · exact Blk.new w cs T
    · exact (d.skip _).mem x hx
  · rcases List.mem_cons.1 hb with rfl | hb
    · exact ⟨by show w.heap.size ≠ k; omega, hs, by show B ≤ w.heap.size; omega⟩
    · exact d.far b hb
  · refine List.pairwise_cons.2 ⟨fun b hb => ?_, d.dif⟩
    have := Blk.lt (d.mem b hb)
    show w.heap.size ≠ b.1
    omega
theorem Dr.go {m : Nat} (d : Dr B k v xs n w0 bl w) (hc : Cur B k v xs m w1) (ho : Over [k] w w1) : Dr B k v xs m w0 bl w1 :=
  ⟨hc, d.ovr.trans ho, fun x hx => (d.mem x hx).over ho (by simpa using (d.far x hx).1), d.far, d.dif⟩
theorem Dr.below (d : Dr B k v xs n w0 bl w) (hb : Below w.heap.size w w1) : Dr B k v xs n w0 bl w1 := d.go (d.cur.below hb) (.of_below hb)
theorem Dr.le {m : Nat} (d : Dr B k v xs n w0 bl w) (h : n ≤ m) : Dr B k v xs m w0 bl w := ⟨d.cur.le h, d.ovr, d.mem, d.far, d.dif⟩
theorem Dr.swap {a b : Nat × Array Value × TypeId} (d : Dr B k v xs n w0 (a :: b :: bl) w) : Dr B k v xs n w0 (b :: a :: bl) w := by
  refine ⟨d.cur, d.ovr, fun x hx => d.mem x ?_, fun x hx => d.far x ?_, ?_⟩
  · simp only [List.mem_cons] at hx ⊢; rcases hx with h | h | h <;> simp [h]
  · simp only [List.mem_cons] at hx ⊢; rcases hx with h | h | h <;> simp [h]
  · have h := d.dif
    simp only [List.pairwise_cons, List.mem_cons] at h ⊢
    refine ⟨fun x hx => ?_, fun x hx => h.1 x (.inr hx), h.2.2⟩
    rcases hx with rfl | hx
    · exact fun e => h.1 b (.inl rfl) e.symm
    · exact h.2.1 x hx
theorem Dr.tail {a : Nat × Array Value × TypeId} (d : Dr B k v xs n w0 (a :: bl) w) : Dr B k v xs n w0 bl w := ⟨d.cur, d.ovr, fun x hx => d.mem x (by simp [hx]), fun x hx => d.far x (by simp [hx]), (List.pairwise_cons.1 d.dif).2⟩
theorem Dr.head (d : Dr B k v xs n w0 ((S, cs, T) :: bl) w) : Blk S cs T w := d.mem (S, cs, T) (by simp)
theorem Dr.set (d : Dr B k v xs n w0 ((S, cs, T) :: bl) w) (o : Nat) (x : Value) : Dr B k v xs n w0 ((S, cs.setIfInBounds o x, T) :: bl) (w.setCell ⟨S, o, none⟩ x) := by
  have hf := d.far (S, cs, T) (by simp)
  have hf1 : S ≠ k := hf.1
  have hf2 : w0.heap.size ≤ S := hf.2.1
  have hf3 : B ≤ S := hf.2.2
  obtain ⟨h1, h2, h3, a, s, h4, h5, h6, h7⟩ := d.cur
  refine ⟨⟨h1, by simpa [World.setCell] using h2, h3.set hf3, a, s, h4, h5, h6, h7.far (by show k ≠ S; omega) _⟩, d.ovr.setCell (.inl hf2) x, fun y hy => ?_, fun b hb => ?_, ?_⟩
  · rcases List.mem_cons.1 hy with rfl | hy
    · exact d.head.set o x
    · refine (d.mem y (by simp [hy])).far ?_ _
      exact fun e => (List.pairwise_cons.1 d.dif).1 y hy e.symm
  · rcases List.mem_cons.1 hb with rfl | hb
    · exact hf
    · exact d.far b (by simp [hb])
  · have := List.pairwise_cons.1 d.dif
    exact List.pairwise_cons.2 ⟨fun b hb => this.1 b hb, this.2⟩
end
section
variable {B k n : Nat} {v : Value} {xs : List Int} {w0 w w1 : World} {bl : List (Nat × Array Value × TypeId)} {S : Nat} {T : TypeId} {a b c : Value}
theorem Dr.s0 (d : Dr B k v xs n w0 ((S, #[a, b], T) :: bl) w) (x : Value) : Dr B k v xs n w0 ((S, #[x, b], T) :: bl) (w.setCell ⟨S, 0, none⟩ x) := d.set 0 x
theorem Dr.s1 (d : Dr B k v xs n w0 ((S, #[a, b], T) :: bl) w) (x : Value) : Dr B k v xs n w0 ((S, #[a, x], T) :: bl) (w.setCell ⟨S, 1, none⟩ x) := d.set 1 x
theorem Dr.s01 (d : Dr B k v xs n w0 ((S, #[a, b], T) :: bl) w) (x y : Value) : Dr B k v xs n w0 ((S, #[x, y], T) :: bl) ((w.setCell ⟨S, 0, none⟩ x).setCell ⟨S, 1, none⟩ y) := (d.set 0 x).set 1 y
theorem Dr.s012 (d : Dr B k v xs n w0 ((S, #[a, b, c], T) :: bl) w) (x y z : Value) : Dr B k v xs n w0 ((S, #[x, y, z], T) :: bl) (((w.setCell ⟨S, 0, none⟩ x).setCell ⟨S, 1, none⟩ y).setCell ⟨S, 2, none⟩ z) := ((d.set 0 x).set 1 y).set 2 z
theorem Dr.two (d : Dr B k v xs n w0 ((S, #[a, b], T) :: bl) w) : w.cell? ⟨S, 0, none⟩ = some a ∧ w.cell? ⟨S, 1, none⟩ = some b ∧ w.frozen? ⟨S, 0, none⟩ = false ∧ w.frozen? ⟨S, 1, none⟩ = false := ⟨d.head.cell 0, d.head.cell 1, d.head.frozen 0, d.head.frozen 1⟩
theorem Dr.three (d : Dr B k v xs n w0 ((S, #[a, b, c], T) :: bl) w) : w.cell? ⟨S, 0, none⟩ = some a ∧ w.cell? ⟨S, 1, none⟩ = some b ∧ w.cell? ⟨S, 2, none⟩ = some c ∧ w.frozen? ⟨S, 0, none⟩ = false ∧ w.frozen? ⟨S, 1, none⟩ = false ∧ w.frozen? ⟨S, 2, none⟩ = false := ⟨d.head.cell 0, d.head.cell 1, d.head.cell 2, d.head.frozen 0, d.head.frozen 1, d.head.frozen 2⟩
theorem RdB.overS {S : Nat} (h : RdB w B v xs) (ho : Over [S] w w1) (hB : B ≤ w.heap.size) (hS : B ≤ S) : RdB w1 B v xs := h.over ho hB hS
theorem Dr.stored {S : Nat} {T : TypeId} {cs cs' : Array Value} (d : Dr B k v xs n w0 ((S, cs, T) :: bl) w) (ho : Over [S] w w1) (hb : Blk S cs' T w1) : Dr B k v xs n w0 ((S, cs', T) :: bl) w1 := by
  have hf := d.far (S, cs, T) (by simp)
  have hf1 : S ≠ k := hf.1
  have hf2 : w0.heap.size ≤ S := hf.2.1
  have hf3 : B ≤ S := hf.2.2
  have hs := ho.size
  obtain ⟨h1, h2, h3, a, s, h4, h5, h6, h7⟩ := d.cur
  refine ⟨⟨h1, Nat.lt_of_lt_of_le h2 hs, h3.over ho (by omega) hf3, a, s, h4, h5, h6, h7.over ho (by simp; omega)⟩, ?_, fun y hy => ?_, fun b hb => ?_, ?_⟩
  · exact ⟨ho.os.trans d.ovr.os, ho.tape.trans d.ovr.tape, ho.output.trans d.ovr.output, Nat.le_trans d.ovr.size ho.size, fun j hj hn => (ho.block j (Nat.lt_of_lt_of_le hj d.ovr.size) (by simp; omega)).trans (d.ovr.block j hj hn)⟩
  · rcases List.mem_cons.1 hy with rfl | hy
    · exact hb
    · exact (d.mem y (by simp [hy])).over ho (by simpa using fun e => (List.pairwise_cons.1 d.dif).1 y hy e.symm)
  · rcases List.mem_cons.1 hb with rfl | hb
    · exact hf
    · exact d.far b (by simp [hb])
  · have := List.pairwise_cons.1 d.dif
    exact List.pairwise_cons.2 ⟨fun b hb => this.1 b hb, this.2⟩
/-- what a drawing function leaves -/
theorem Dr.out (d : Dr w0.heap.size k v xs n w0 bl w) : Below w0.heap.size w0 w :=
  d.ovr.belowGe (Below.refl _ _) (Nat.le_refl _) (by have := d.cur.1; simpa using this)
/-- a cursor made anew, no block ahead of it -/
theorem Dr.make0 (h : RdB w w.heap.size v xs) : Dr w.heap.size w.heap.size v xs 0 w [] (w.alloc (.cells #[v, .int .i64 0, .int .u64 0] 73)) :=
  ⟨Cur.new h, (Over.refl _ _).alloc _, (fun _ hx => (List.not_mem_nil hx).elim), (fun _ hb => (List.not_mem_nil hb).elim), List.Pairwise.nil⟩
/-- a cursor made anew behind one block -/
theorem Dr.make1 (h : RdB w w.heap.size v xs) (cs : Array Value) (T : TypeId) : Dr w.heap.size (w.heap.size + 1) v xs 0 w [(w.heap.size, cs, T)] ((w.alloc (.cells cs T)).alloc (.cells #[v, .int .i64 0, .int .u64 0] 73)) := by
  have h1 := h.below (w1 := w.alloc (.cells cs T)) ((Below.refl _ _).alloc (Nat.le_refl _) _) (Nat.le_refl _)
  have h2 := h1.below (w1 := (w.alloc (.cells cs T)).alloc (.cells #[v, .int .i64 0, .int .u64 0] 73)) ((Below.refl _ _).alloc (Nat.le_refl _) _) (by simp)
  refine ⟨⟨by omega, by simp, h2, 0, 0, Nat.le_refl _, by omega, by omega, ?_⟩, ((Over.refl _ _).alloc _).alloc _, fun x hx => ?_, fun b hb => ?_, by simp⟩
  · have := Blk.new (w.alloc (.cells cs T)) #[v, .int .i64 0, .int .u64 0] 73
    rw [World.size_alloc] at this
    exact this
  · rw [List.mem_singleton] at hx
    subst hx
    exact (Blk.new w cs T).alloc _
  · rw [List.mem_singleton] at hb
    subst hb
    exact ⟨by show w.heap.size ≠ w.heap.size + 1; omega, Nat.le_refl _, Nat.le_refl _⟩
/-- a cursor made anew behind two blocks -/
theorem Dr.make2 (h : RdB w w.heap.size v xs) (cs cs' : Array Value) (T T' : TypeId) :
    Dr w.heap.size (w.heap.size + 1 + 1) v xs 0 w [(w.heap.size, cs, T), (w.heap.size + 1, cs', T')] (((w.alloc (.cells cs T)).alloc (.cells cs' T')).alloc (.cells #[v, .int .i64 0, .int .u64 0] 73)) := by
  have h1 := h.below (w1 := w.alloc (.cells cs T)) ((Below.refl _ _).alloc (Nat.le_refl _) _) (Nat.le_refl _)
  have h2 := h1.below (w1 := (w.alloc (.cells cs T)).alloc (.cells cs' T')) ((Below.refl _ _).alloc (Nat.le_refl _) _) (by simp)
  have h3 := h2.below (w1 := ((w.alloc (.cells cs T)).alloc (.cells cs' T')).alloc (.cells #[v, .int .i64 0, .int .u64 0] 73)) ((Below.refl _ _).alloc (Nat.le_refl _) _) (by simp; omega)
  refine ⟨⟨by omega, by simp, h3, 0, 0, Nat.le_refl _, by omega, by omega, ?_⟩, (((Over.refl _ _).alloc _).alloc _).alloc _, fun x hx => ?_, fun b hb => ?_, by simp⟩
  · have := Blk.new ((w.alloc (.cells cs T)).alloc (.cells cs' T')) #[v, .int .i64 0, .int .u64 0] 73
    rw [World.size_alloc, World.size_alloc] at this
    exact this
  · simp only [List.mem_cons, List.not_mem_nil, or_false] at hx
    rcases hx with rfl | rfl
    · exact ((Blk.new w cs T).alloc _).alloc _
    · have := (Blk.new (w.alloc (.cells cs T)) cs' T').alloc (.cells #[v, .int .i64 0, .int .u64 0] 73)
      rw [World.size_alloc] at this
      exact this
  · simp only [List.mem_cons, List.not_mem_nil, or_false] at hb
    rcases hb with rfl | rfl
    · exact ⟨by show w.heap.size ≠ w.heap.size + 1 + 1; omega, Nat.le_refl _, Nat.le_refl _⟩
    · exact ⟨by show w.heap.size + 1 ≠ w.heap.size + 1 + 1; omega, by show w.heap.size ≤ w.heap.size + 1; omega, by show w.heap.size ≤ w.heap.size + 1; omega⟩
end
/-- a number, drawn -/
def NumD (B k : Nat) (v : Value) (xs : List Int) (n : Nat) (w0 : World) (bl : List (Nat × Array Value × TypeId)) (lo hi : Int) (e : Ending) (w' : World) : Prop :=
  ∃ b : Int, e = .returned (.int .i64 b) ∧ (lo ≤ b ∧ b ≤ hi) ∧ Dr B k v xs n w0 bl w'
def BoolD (B k : Nat) (v : Value) (xs : List Int) (n : Nat) (w0 : World) (bl : List (Nat × Array Value × TypeId)) (e : Ending) (w' : World) : Prop :=
  ∃ b : Bool, e = .returned (.bool b) ∧ Dr B k v xs n w0 bl w'
def AmD (B k : Nat) (v : Value) (xs : List Int) (n : Nat) (w0 : World) (bl : List (Nat × Array Value × TypeId)) (L : List Int) (e : Ending) (w' : World) : Prop :=
  ∃ b : Int, e = .returned (.int .i64 b) ∧ b ∈ L ∧ Dr B k v xs n w0 bl w'
section
variable {B k n : Nat} {v : Value} {xs : List Int} {w0 w : World} {bl : List (Nat × Array Value × TypeId)}
theorem d_pick (d : Dr B k v xs n w0 bl w) (hn : n ≤ 900000) (m : Int) (hm : 0 ≤ m ∧ m ≤ 1000000) :
    Calls Tryz.prog 84 #[.pointer (some ⟨k, 0, none⟩), .int .i64 m] w (NumD B k v xs (n + 2) w0 bl 0 (if m ≤ 1 then 0 else m - 1)) :=
  (c_pick B k v xs n hn m hm w d.cur).mono fun _ _ ⟨b, h1, h2, h3, h4, h5⟩ => ⟨b, h1, ⟨h2, h3⟩, d.go h4 h5⟩
theorem d_one (d : Dr B k v xs n w0 bl w) (hn : n ≤ 900000) (m : Int) (hm : 0 ≤ m ∧ m ≤ 1000000) :
    Calls Tryz.prog 83 #[.pointer (some ⟨k, 0, none⟩), .int .i64 m] w (BoolD B k v xs (n + 2) w0 bl) :=
  (c_one B k v xs n hn m hm w d.cur).mono fun _ _ ⟨b, h1, h4, h5⟩ => ⟨b, h1, d.go h4 h5⟩
theorem d_among (d : Dr B k v xs n w0 bl w) (hn : n ≤ 900000) (L : List Int) (hL : 1 ≤ L.length ∧ L.length ≤ 200) :
    Calls Tryz.prog 50 #[.pointer (some ⟨k, 0, none⟩), .slice (some ⟨w.heap.size, 0, none⟩) L.length L.length] (w.alloc (.cells (L.map (Value.int .i64)).toArray 3)) (AmD B k v xs (n + 2) w0 bl L) := by
  have hk := d.cur.2.1
  exact (c_among B k v xs n hn L hL w.heap.size (by omega) _ (d.skip _).cur (Blk.new w _ _)).mono fun _ _ ⟨b, h1, h2, h4, h5⟩ => ⟨b, h2, h1, (d.skip _).go h4 h5⟩
end
end Go.Proofs.YtbcjlhbpgcjddaaGreatDoor

/- DrJ -/
namespace Go.Proofs.YtbcjlhbpgcjddaaGreatDoor
open Go.RowKit

section
variable {B k n : Nat} {v : Value} {xs : List Int} {w0 w : World} {bl : List (Nat × Array Value × TypeId)}
set_option maxHeartbeats 1000000 in
theorem d_areaNumber (d : Dr B k v xs n w0 bl w) (hn : n ≤ 800000) : Calls Tryz.prog 49 #[.pointer (some ⟨k, 0, none⟩)] w (NumD B k v xs (n + 4) w0 bl (-5) 33) := by
  go_enter Tryz.func49, Tryz.ntmps49
  go_wp2_with fail
  refine (d_among d (by omega) [0, 4, 12, 32, 33, -5] (by simp)).mono ?_
  rintro e w2 ⟨y, rfl, hy, d2⟩
  replace hy : -5 ≤ y ∧ y ≤ 33 := by simp at hy; omega
  go_wp2_with fail
  refine (d_among d2 (by omega) [5, 6, 6, 7, 1, 2, 3, 13, 14, 15, 21, 30, 31, y] (by simp)).mono ?_
  rintro e w3 ⟨z, rfl, hz, d3⟩
  replace hz : -5 ≤ z ∧ z ≤ 33 := by simp at hz; omega
  go_wp2
  refine bodyPost_ret (v := .int .i64 z) (by simp [results, Tryz.results49, go_sem]) rfl ?_
  exact ⟨_, rfl, hz, d3⟩
end
/-- a number, drawn by a function -/
def NumOut (w : World) (lo hi : Int) (e : Ending) (w' : World) : Prop := ∃ a : Int, e = .returned (.int .i64 a) ∧ (lo ≤ a ∧ a ≤ hi) ∧ Below w.heap.size w w'
theorem d_drawIsArea (v : Value) (xs : List Int) (w : World) (h : RdB w w.heap.size v xs) : Calls Tryz.prog 43 #[v] w (NumOut w (-5) 33) := by
  have d1 := Dr.make0 h
  obtain ⟨a0, cap, rfl, _⟩ := h
  go_enter Tryz.func43, Tryz.ntmps43
  go_wp2_with fail
  generalize w.alloc _ = W0 at d1 ⊢
  refine (d_areaNumber d1 (by omega)).mono ?_
  rintro e w2 ⟨a, rfl, ha, d2⟩
  go_wp2
  refine bodyPost_ret (v := .int .i64 a) (by simp [results, Tryz.results43, go_sem]) rfl ?_
  exact ⟨_, rfl, ha, d2.out⟩
theorem d_drawFormCounts (v : Value) (xs : List Int) (w : World) (h : RdB w w.heap.size v xs) : Calls Tryz.prog 5 #[v] w (NumOut w (-5) 33) := by
  have HI := Lib.hid (d_drawIsArea v xs w h)
  obtain ⟨a0, cap, rfl, _⟩ := h
  go_enter Tryz.func5, Tryz.ntmps5
  go_wp2_with fail
  refine HI.out.mono ?_
  rintro e w3 ⟨a, rfl, ha, hb⟩
  clear HI
  go_wp2
  refine bodyPost_ret (v := .int .i64 a) (by simp [results, Tryz.results5, go_sem]) rfl ?_
  exact ⟨_, rfl, ha, hb⟩
/-- two numbers, drawn by a function -/
def FstOut (w : World) (e : Ending) (w' : World) : Prop := ∃ a m : Int, e = .returned (.tuple #[.int .i64 a, .int .i64 m]) ∧ (-5 ≤ a ∧ a ≤ 33) ∧ (1 ≤ m ∧ m ≤ 101) ∧ Below w.heap.size w w'
set_option maxHeartbeats 1000000 in
theorem d_drawFirst (v : Value) (xs : List Int) (w : World) (h : RdB w w.heap.size v xs) : Calls Tryz.prog 10 #[v] w (FstOut w) := by
  have d1 := Dr.make0 h
  obtain ⟨a0, cap, rfl, _⟩ := h
  go_enter Tryz.func10, Tryz.ntmps10
  go_wp2_with fail
  generalize w.alloc _ = W0 at d1 ⊢
  refine (d_areaNumber d1 (by omega)).mono ?_
  rintro e w2 ⟨a, rfl, ha, d2⟩
  go_wp2_with fail
  refine (d_among d2 (by omega) [1, 101] (by simp)).mono ?_
  rintro e w3 ⟨y, rfl, hy, d3⟩
  replace hy : 1 ≤ y ∧ y ≤ 101 := by simp at hy; omega
  go_wp2_with fail
  refine (d_among d3 (by omega) [2, 5, 10, 20, 100, y] (by simp)).mono ?_
  rintro e w4 ⟨z, rfl, hz, d4⟩
  replace hz : 1 ≤ z ∧ z ≤ 101 := by simp at hz; omega
  go_wp2
  refine bodyPost_ret (v := .tuple #[.int .i64 a, .int .i64 z]) (by simp [results, Tryz.results10, go_sem]) rfl ?_
  exact ⟨_, _, rfl, ha, hz, d4.out⟩
end Go.Proofs.YtbcjlhbpgcjddaaGreatDoor

/- Frm -/
namespace Go.Proofs.YtbcjlhbpgcjddaaGreatDoor
open Go.RowKit

/-- a triangle's text is no word -/
theorem tri_no {p q r s t u : Int} : ¬ (triS p q r s t u).toList = [110, 111] ∧ ¬ (triS p q r s t u).toList = [111, 112, 101, 110] := by
  have h32 : (32 : UInt8) ∈ (triS p q r s t u).toList := by
    rw [ByteArray.toList_eq]
    unfold triS
    simp [ByteArray.data_append]
  constructor
  · intro e; rw [e] at h32; simp at h32
  · intro e; rw [e] at h32; simp at h32
theorem n_facts (n : Int) : (areaB n = true → (if areaB n then fcB n else 0) ≤ (if areaB n then fcA n else 0) ∧ (areaB n && mayB n) = ((if areaB n then fcA n else 0) == 2 * (if areaB n then fcB n else 0))) ∧ (0 ≤ (if areaB n then fcA n else 0) ∧ (if areaB n then fcA n else 0) ≤ 2197) ∧ (0 ≤ (if areaB n then fcB n else 0) ∧ (if areaB n then fcB n else 0) ≤ 2197) := by
  have hb := fc_bd n
  refine ⟨fun h => ?_, ?_, ?_⟩
  · rw [h]
    refine ⟨fc_le (congA_of h).2, ?_⟩
    unfold mayB
    simp
  · split <;> omega
  · split <;> omega
set_option maxHeartbeats 4000000 in
set_option maxRecDepth 100000 in
theorem walk_FnForms (v0 : Value) (xs : List Int) (v1 : Value) (ys : List Int) (w : World) (r0 : RdB w w.heap.size v0 xs) (r1 : RdB w w.heap.size v1 ys) (ht : TabI w) :
    Calls Tryz.prog 3 #[v0, v1] w fun e w' => e = .returned (.bool true) ∧ Below w.heap.size w w' := by
  have hml : maxLen = 9223372036854775807 := by decide +kernel
  by_cases hbig : 1048576 < wrap64 ((xs.length : Int) + ys.length)
  · obtain ⟨a0, cap0, rfl, hm0, _⟩ := id r0
    obtain ⟨a1, cap1, rfl, hm1, _⟩ := id r1
    clear r0 r1 ht
    go_enter Tryz.func3, Tryz.ntmps3
    go_wp2
    go_ret
    exact ⟨rfl, Below.refl _ _⟩
  · -- the first half: n's answers, then the draw of k and m
    obtain ⟨a0, cap0, rfl, hm0, _⟩ := id r0
    obtain ⟨a1, cap1, rfl, hm1, _⟩ := id r1
    have HD := Lib.hid (d_drawFormCounts _ xs w r0)
    have R1 := Lib.hid r1
    have HT := Lib.hid ht
    clear r0 r1 ht
    go_enter Tryz.func3, Tryz.ntmps3
    go_wp2_with fail
    refine HD.out.mono ?_
    rintro e w1 ⟨n, rfl, hn, hb1⟩
    clear HD
    have H1 := Lib.hid (fun W => c_implFormCounts n W)
    have H2 := Lib.hid (fun W => c_specFormCounts n W)
    have H3 := Lib.hid (fun W => c_implMay n W)
    have H4 := Lib.hid (fun W => c_specMay n W)
    have H5 := Lib.hid (fun W => c_iIsAreaNumber n W)
    obtain ⟨hf, hfa, hfb⟩ := n_facts n
    have HF := Lib.hid hf
    clear hf
    generalize (if areaB n then fcA n else 0) = fa at H1 H2 HF hfa
    generalize (if areaB n then fcB n else 0) = fb at H1 H2 HF hfb
    generalize (areaB n && mayB n) = my at H3 H4 HF
    generalize areaB n = b1 at H1 H2 H3 H4 H5 HF
    go_wp2_with fail
    refine (H1.out _).mono ?_
    rintro e w2 ⟨rfl, hb2⟩
    go_wp2_with fail
    refine (H2.out _).mono ?_
    rintro e w3 ⟨rfl, hb3⟩
    go_wp2_with fail
    refine (H3.out _).mono ?_
    rintro e w4 ⟨rfl, hb4⟩
    go_wp2_with fail
    refine (H4.out _).mono ?_
    rintro e w5 ⟨rfl, hb5⟩
    have bb2 := below_step hb2 hb1.size hb1
    have bb3 := below_step hb3 bb2.size bb2
    have bb4 := below_step hb4 bb3.size bb3
    have bb5 := below_step hb5 bb4.size bb4
    clear H1 H2 H3 H4 hb1 hb2 hb3 hb4 hb5 bb2 bb3 bb4
    go_wp2_with fail
    refine (d_drawFirst _ ys _ (R1.out.later bb5)).mono ?_
    rintro e w6 ⟨k, m, rfl, hk, hm, hb6⟩
    have bb6 := below_step hb6 bb5.size bb5
    clear R1 hb6 bb5
    obtain ⟨p, q, r, s, t, u, hfr⟩ := frV_form k m
    cases hask : faB k m
    · -- the contracts for k and m
      have H3 := Lib.hid (fun (W : World) (hW : TabI W) => c_iCong k m _ false W (fun w1 h1 => c_impl_congruentText_no k m hask w1) hW)
      have H4 := Lib.hid (fun (W : World) (_ : TabI W) => c_spec_CongruentText_no k m hask W)
      have H1 := Lib.hid (fun W => c_iFirst k m W)
      have H2 := Lib.hid (fun W => c_sFirst k m W)
      unfold TriPost at H1 H2
      rw [hfr] at H1 H2
      rw [show (faB k m && ftB k m) = false by rw [hask]; first | rfl | exact hft] at H1 H2
      clear hask hfr
      -- the answers for k and m
      go_wp2_with fail
      refine (H1.out _).mono ?_
      rintro e w7 ⟨rfl, hb7⟩
      have bb7 := below_step hb7 bb6.size bb6
      have kA := Blk.new w7 #[.int .i64 p, .int .i64 q, .int .i64 r, .int .i64 s, .int .i64 t, .int .i64 u] 33
      have bb8 := bb7.alloc bb7.size (.cells #[.int .i64 p, .int .i64 q, .int .i64 r, .int .i64 s, .int .i64 t, .int .i64 u] 33)
      clear hb7 bb7 bb6
      go_upto_region 10 with (fail)
      generalize w7.alloc _ = w8 at *
      generalize w7.heap.size = rA at *
      go_wp2_with fail
      refine (H2.out _).mono ?_
      rintro e w9 ⟨rfl, hb9⟩
      have bb9 := below_step hb9 bb8.size bb8
      replace kA := (kA.next hb9).alloc (.cells #[.int .i64 p, .int .i64 q, .int .i64 r, .int .i64 s, .int .i64 t, .int .i64 u] 33)
      have kB := Blk.new w9 #[.int .i64 p, .int .i64 q, .int .i64 r, .int .i64 s, .int .i64 t, .int .i64 u] 33
      have bb10 := bb9.alloc bb9.size (.cells #[.int .i64 p, .int .i64 q, .int .i64 r, .int .i64 s, .int .i64 t, .int .i64 u] 33)
      clear hb9 bb9 bb8
      go_upto_region 11 with (fail)
      generalize w9.alloc _ = w10 at *
      generalize w9.heap.size = rB at *
      go_wp2_with fail
      refine (H3.out _ (HT.out.below bb10)).mono ?_
      rintro e w11 ⟨rfl, hb11⟩
      have bb11 := below_step hb11 bb10.size bb10
      replace kA := kA.next hb11
      replace kB := kB.next hb11
      clear hb11 bb10
      go_wp2_with fail
      refine (H4.out _ (HT.out.below bb11)).mono ?_
      rintro e w12 ⟨rfl, hb12⟩
      have bb12 := below_step hb12 bb11.size bb11
      replace kA := kA.next hb12
      replace kB := kB.next hb12
      clear hb12 bb11 H1 H2 H3 H4
      have kA0 : (w12).cell? ⟨rA, 0, none⟩ = some (.int .i64 p) := kA.cell 0; have kA1 : (w12).cell? ⟨rA, 1, none⟩ = some (.int .i64 q) := kA.cell 1; have kA2 : (w12).cell? ⟨rA, 2, none⟩ = some (.int .i64 r) := kA.cell 2; have kA3 : (w12).cell? ⟨rA, 3, none⟩ = some (.int .i64 s) := kA.cell 3; have kA4 : (w12).cell? ⟨rA, 4, none⟩ = some (.int .i64 t) := kA.cell 4; have kA5 : (w12).cell? ⟨rA, 5, none⟩ = some (.int .i64 u) := kA.cell 5; have kAl : rA < (w12).heap.size := kA.lt
      have kB0 : (w12).cell? ⟨rB, 0, none⟩ = some (.int .i64 p) := kB.cell 0; have kB1 : (w12).cell? ⟨rB, 1, none⟩ = some (.int .i64 q) := kB.cell 1; have kB2 : (w12).cell? ⟨rB, 2, none⟩ = some (.int .i64 r) := kB.cell 2; have kB3 : (w12).cell? ⟨rB, 3, none⟩ = some (.int .i64 s) := kB.cell 3; have kB4 : (w12).cell? ⟨rB, 4, none⟩ = some (.int .i64 t) := kB.cell 4; have kB5 : (w12).cell? ⟨rB, 5, none⟩ = some (.int .i64 u) := kB.cell 5; have kBl : rB < (w12).heap.size := kB.lt
      go_wp2_with fail
      refine (H5.out _).mono ?_
      rintro e w13 ⟨rfl, hb13⟩
      have bb13 := below_step hb13 bb12.size bb12
      clear kA0 kA1 kA2 kA3 kA4 kA5 kAl kB0 kB1 kB2 kB3 kB4 kB5 kBl kB H5
      replace kA := kA.next hb13
      clear hb13 bb12
      cases b1
      · go_wp2
        go_ret
        exact ⟨rfl, bb13⟩
      · obtain ⟨h1, h2⟩ := HF.out rfl
        have h3 : ¬ (fa < fb) := by omega
        obtain ⟨z, hz⟩ : ∃ z, (fa == 2 * fb) = z := ⟨_, rfl⟩
        rw [hz] at h2
        cases z
        · subst h2
          go_wp2
          go_ret
          exact ⟨rfl, bb13⟩
        · subst h2
          go_wp2
          go_ret
          exact ⟨rfl, bb13⟩
    · cases hmay : mayB k
      · have hft : ftB k m = false := by
          cases h : ftB k m
          · rfl
          · obtain ⟨_, _, _, _, _, _, _, _, _, _, _, _, h9, _⟩ := tri_facts hask h
            rw [hmay] at h9; cases h9
        -- the contracts for k and m
        have H3 := Lib.hid (fun (W : World) (hW : TabI W) => c_iCong k m _ true W (fun w1 h1 => c_impl_congruentText_may k m hask hmay w1) hW)
        have H4 := Lib.hid (fun (W : World) (_ : TabI W) => c_spec_CongruentText_may k m hask hmay W)
        have H1 := Lib.hid (fun W => c_iFirst k m W)
        have H2 := Lib.hid (fun W => c_sFirst k m W)
        unfold TriPost at H1 H2
        rw [hfr] at H1 H2
        rw [show (faB k m && ftB k m) = false by rw [hask]; first | rfl | exact hft] at H1 H2
        clear hask hfr hmay hft
        -- the answers for k and m
        go_wp2_with fail
        refine (H1.out _).mono ?_
        rintro e w7 ⟨rfl, hb7⟩
        have bb7 := below_step hb7 bb6.size bb6
        have kA := Blk.new w7 #[.int .i64 p, .int .i64 q, .int .i64 r, .int .i64 s, .int .i64 t, .int .i64 u] 33
        have bb8 := bb7.alloc bb7.size (.cells #[.int .i64 p, .int .i64 q, .int .i64 r, .int .i64 s, .int .i64 t, .int .i64 u] 33)
        clear hb7 bb7 bb6
        go_upto_region 10 with (fail)
        generalize w7.alloc _ = w8 at *
        generalize w7.heap.size = rA at *
        go_wp2_with fail
        refine (H2.out _).mono ?_
        rintro e w9 ⟨rfl, hb9⟩
        have bb9 := below_step hb9 bb8.size bb8
        replace kA := (kA.next hb9).alloc (.cells #[.int .i64 p, .int .i64 q, .int .i64 r, .int .i64 s, .int .i64 t, .int .i64 u] 33)
        have kB := Blk.new w9 #[.int .i64 p, .int .i64 q, .int .i64 r, .int .i64 s, .int .i64 t, .int .i64 u] 33
        have bb10 := bb9.alloc bb9.size (.cells #[.int .i64 p, .int .i64 q, .int .i64 r, .int .i64 s, .int .i64 t, .int .i64 u] 33)
        clear hb9 bb9 bb8
        go_upto_region 11 with (fail)
        generalize w9.alloc _ = w10 at *
        generalize w9.heap.size = rB at *
        go_wp2_with fail
        refine (H3.out _ (HT.out.below bb10)).mono ?_
        rintro e w11 ⟨rfl, hb11⟩
        have bb11 := below_step hb11 bb10.size bb10
        replace kA := kA.next hb11
        replace kB := kB.next hb11
        clear hb11 bb10
        go_wp2_with fail
        refine (H4.out _ (HT.out.below bb11)).mono ?_
        rintro e w12 ⟨rfl, hb12⟩
        have bb12 := below_step hb12 bb11.size bb11
        replace kA := kA.next hb12
        replace kB := kB.next hb12
        clear hb12 bb11 H1 H2 H3 H4
        have kA0 : (w12).cell? ⟨rA, 0, none⟩ = some (.int .i64 p) := kA.cell 0; have kA1 : (w12).cell? ⟨rA, 1, none⟩ = some (.int .i64 q) := kA.cell 1; have kA2 : (w12).cell? ⟨rA, 2, none⟩ = some (.int .i64 r) := kA.cell 2; have kA3 : (w12).cell? ⟨rA, 3, none⟩ = some (.int .i64 s) := kA.cell 3; have kA4 : (w12).cell? ⟨rA, 4, none⟩ = some (.int .i64 t) := kA.cell 4; have kA5 : (w12).cell? ⟨rA, 5, none⟩ = some (.int .i64 u) := kA.cell 5; have kAl : rA < (w12).heap.size := kA.lt
        have kB0 : (w12).cell? ⟨rB, 0, none⟩ = some (.int .i64 p) := kB.cell 0; have kB1 : (w12).cell? ⟨rB, 1, none⟩ = some (.int .i64 q) := kB.cell 1; have kB2 : (w12).cell? ⟨rB, 2, none⟩ = some (.int .i64 r) := kB.cell 2; have kB3 : (w12).cell? ⟨rB, 3, none⟩ = some (.int .i64 s) := kB.cell 3; have kB4 : (w12).cell? ⟨rB, 4, none⟩ = some (.int .i64 t) := kB.cell 4; have kB5 : (w12).cell? ⟨rB, 5, none⟩ = some (.int .i64 u) := kB.cell 5; have kBl : rB < (w12).heap.size := kB.lt
        go_wp2_with fail
        refine (H5.out _).mono ?_
        rintro e w13 ⟨rfl, hb13⟩
        have bb13 := below_step hb13 bb12.size bb12
        clear kA0 kA1 kA2 kA3 kA4 kA5 kAl kB0 kB1 kB2 kB3 kB4 kB5 kBl kB H5
        replace kA := kA.next hb13
        clear hb13 bb12
        cases b1
        · go_wp2
          go_ret
          exact ⟨rfl, bb13⟩
        · obtain ⟨h1, h2⟩ := HF.out rfl
          have h3 : ¬ (fa < fb) := by omega
          obtain ⟨z, hz⟩ : ∃ z, (fa == 2 * fb) = z := ⟨_, rfl⟩
          rw [hz] at h2
          cases z
          · subst h2
            go_wp2
            go_ret
            exact ⟨rfl, bb13⟩
          · subst h2
            go_wp2
            go_ret
            exact ⟨rfl, bb13⟩
      · cases hft : ftB k m
        · obtain ⟨p', q', r', s', t', u', hV⟩ := ftV_form k m
          -- the contracts for k and m
          have H3 := Lib.hid (fun (W : World) (hW : TabI W) => c_iCong k m _ true W (fun w1 h1 => c_impl_congruentText_open k m p' q' r' s' t' u' hask hmay hV hft w1) hW)
          have H4 := Lib.hid (fun (W : World) (_ : TabI W) => c_spec_CongruentText_open k m p' q' r' s' t' u' hask hmay hV hft W)
          have H1 := Lib.hid (fun W => c_iFirst k m W)
          have H2 := Lib.hid (fun W => c_sFirst k m W)
          unfold TriPost at H1 H2
          rw [hfr] at H1 H2
          rw [show (faB k m && ftB k m) = false by rw [hask]; first | rfl | exact hft] at H1 H2
          clear hask hfr hmay hft hV
          -- the answers for k and m
          go_wp2_with fail
          refine (H1.out _).mono ?_
          rintro e w7 ⟨rfl, hb7⟩
          have bb7 := below_step hb7 bb6.size bb6
          have kA := Blk.new w7 #[.int .i64 p, .int .i64 q, .int .i64 r, .int .i64 s, .int .i64 t, .int .i64 u] 33
          have bb8 := bb7.alloc bb7.size (.cells #[.int .i64 p, .int .i64 q, .int .i64 r, .int .i64 s, .int .i64 t, .int .i64 u] 33)
          clear hb7 bb7 bb6
          go_upto_region 10 with (fail)
          generalize w7.alloc _ = w8 at *
          generalize w7.heap.size = rA at *
          go_wp2_with fail
          refine (H2.out _).mono ?_
          rintro e w9 ⟨rfl, hb9⟩
          have bb9 := below_step hb9 bb8.size bb8
          replace kA := (kA.next hb9).alloc (.cells #[.int .i64 p, .int .i64 q, .int .i64 r, .int .i64 s, .int .i64 t, .int .i64 u] 33)
          have kB := Blk.new w9 #[.int .i64 p, .int .i64 q, .int .i64 r, .int .i64 s, .int .i64 t, .int .i64 u] 33
          have bb10 := bb9.alloc bb9.size (.cells #[.int .i64 p, .int .i64 q, .int .i64 r, .int .i64 s, .int .i64 t, .int .i64 u] 33)
          clear hb9 bb9 bb8
          go_upto_region 11 with (fail)
          generalize w9.alloc _ = w10 at *
          generalize w9.heap.size = rB at *
          go_wp2_with fail
          refine (H3.out _ (HT.out.below bb10)).mono ?_
          rintro e w11 ⟨rfl, hb11⟩
          have bb11 := below_step hb11 bb10.size bb10
          replace kA := kA.next hb11
          replace kB := kB.next hb11
          clear hb11 bb10
          go_wp2_with fail
          refine (H4.out _ (HT.out.below bb11)).mono ?_
          rintro e w12 ⟨rfl, hb12⟩
          have bb12 := below_step hb12 bb11.size bb11
          replace kA := kA.next hb12
          replace kB := kB.next hb12
          clear hb12 bb11 H1 H2 H3 H4
          have kA0 : (w12).cell? ⟨rA, 0, none⟩ = some (.int .i64 p) := kA.cell 0; have kA1 : (w12).cell? ⟨rA, 1, none⟩ = some (.int .i64 q) := kA.cell 1; have kA2 : (w12).cell? ⟨rA, 2, none⟩ = some (.int .i64 r) := kA.cell 2; have kA3 : (w12).cell? ⟨rA, 3, none⟩ = some (.int .i64 s) := kA.cell 3; have kA4 : (w12).cell? ⟨rA, 4, none⟩ = some (.int .i64 t) := kA.cell 4; have kA5 : (w12).cell? ⟨rA, 5, none⟩ = some (.int .i64 u) := kA.cell 5; have kAl : rA < (w12).heap.size := kA.lt
          have kB0 : (w12).cell? ⟨rB, 0, none⟩ = some (.int .i64 p) := kB.cell 0; have kB1 : (w12).cell? ⟨rB, 1, none⟩ = some (.int .i64 q) := kB.cell 1; have kB2 : (w12).cell? ⟨rB, 2, none⟩ = some (.int .i64 r) := kB.cell 2; have kB3 : (w12).cell? ⟨rB, 3, none⟩ = some (.int .i64 s) := kB.cell 3; have kB4 : (w12).cell? ⟨rB, 4, none⟩ = some (.int .i64 t) := kB.cell 4; have kB5 : (w12).cell? ⟨rB, 5, none⟩ = some (.int .i64 u) := kB.cell 5; have kBl : rB < (w12).heap.size := kB.lt
          go_wp2_with fail
          refine (H5.out _).mono ?_
          rintro e w13 ⟨rfl, hb13⟩
          have bb13 := below_step hb13 bb12.size bb12
          clear kA0 kA1 kA2 kA3 kA4 kA5 kAl kB0 kB1 kB2 kB3 kB4 kB5 kBl kB H5
          replace kA := kA.next hb13
          clear hb13 bb12
          cases b1
          · go_wp2
            go_ret
            exact ⟨rfl, bb13⟩
          · obtain ⟨h1, h2⟩ := HF.out rfl
            have h3 : ¬ (fa < fb) := by omega
            obtain ⟨z, hz⟩ : ∃ z, (fa == 2 * fb) = z := ⟨_, rfl⟩
            rw [hz] at h2
            cases z
            · subst h2
              go_wp2
              go_ret
              exact ⟨rfl, bb13⟩
            · subst h2
              go_wp2
              go_ret
              exact ⟨rfl, bb13⟩
        · obtain ⟨p', q', r', s', t', u', a, b, c, hV, ⟨hA, hB, hC⟩, hvl, _, hpt, hnt, hP⟩ := tri_facts hask hft
          have hfr2 : Value.agg #[.int .i64 p, .int .i64 q, .int .i64 r, .int .i64 s, .int .i64 t, .int .i64 u] = .agg #[.int .i64 p', .int .i64 q', .int .i64 r', .int .i64 s', .int .i64 t', .int .i64 u'] := by rw [← hfr, ← hV]; unfold frV; rw [hask]; rfl
          simp only [Value.agg.injEq, Array.mk.injEq, List.cons.injEq, Value.int.injEq, true_and, and_true] at hfr2
          obtain ⟨rfl, rfl, rfl, rfl, rfl, rfl⟩ := hfr2
          have hka : areaB k = true := by have h := hask; unfold faB at h; rw [Bool.and_eq_true] at h; exact h.1
          obtain ⟨v1, v2⟩ : itOk k p q r s t u = true ∧ tIs k p q r s t u = true := by unfold vlB at hvl; rw [Bool.and_eq_true] at hvl; exact hvl
          have G1 := Lib.hid (fun W => c_implMay k W)
          rw [hka, hmay] at G1
          have G2 := Lib.hid (fun W => c_iIsTriangle k p q r s t u W)
          rw [v1, v2] at G2
          have G3 := Lib.hid hP
          have G4 := Lib.hid (fun W => c_sCongruentCurve k W)
          rw [hka] at G4
          have hcv : curveB (congA k) 0 = true := curve_n3 (congA_of hka)
          have G5 := Lib.hid (fun W => c_IsTorsionPoint (congA k) 0 a b c hcv hpt W)
          rw [show decide ((a, b, c) ∈ toL (congA k) 0) = false from decide_eq_false hnt] at G5
          obtain ⟨n1, n2⟩ := tri_no (p := p) (q := q) (r := r) (s := s) (t := t) (u := u)
          -- the contracts for k and m
          have H3 := Lib.hid (fun (W : World) (hW : TabI W) => c_iCong k m _ true W (fun w1 h1 => c_impl_congruentText_yes k m p q r s t u hask hmay hV hft hA hB hC w1 h1) hW)
          have H4 := Lib.hid (fun (W : World) (_ : TabI W) => c_spec_CongruentText_yes k m p q r s t u hask hmay hV hft hA hB hC W)
          have H1 := Lib.hid (fun W => c_iFirst k m W)
          have H2 := Lib.hid (fun W => c_sFirst k m W)
          unfold TriPost at H1 H2
          rw [hfr] at H1 H2
          rw [show (faB k m && ftB k m) = true by rw [hask]; first | rfl | exact hft] at H1 H2
          generalize triS p q r s t u = S at *
          generalize congA k = ck at *
          have n3 : (S.toList == [110, 111]) = false := by simpa using n1
          have n4 : (S.toList == [111, 112, 101, 110]) = false := by simpa using n2
          clear hask hfr hmay hft hV hA hB hC hvl hpt hnt hP hka v1 v2 hcv
          -- the answers for k and m
          go_wp2_with fail
          refine (H1.out _).mono ?_
          rintro e w7 ⟨rfl, hb7⟩
          have bb7 := below_step hb7 bb6.size bb6
          have kA := Blk.new w7 #[.int .i64 p, .int .i64 q, .int .i64 r, .int .i64 s, .int .i64 t, .int .i64 u] 33
          have bb8 := bb7.alloc bb7.size (.cells #[.int .i64 p, .int .i64 q, .int .i64 r, .int .i64 s, .int .i64 t, .int .i64 u] 33)
          clear hb7 bb7 bb6
          go_upto_region 10 with (fail)
          generalize w7.alloc _ = w8 at *
          generalize w7.heap.size = rA at *
          go_wp2_with fail
          refine (H2.out _).mono ?_
          rintro e w9 ⟨rfl, hb9⟩
          have bb9 := below_step hb9 bb8.size bb8
          replace kA := (kA.next hb9).alloc (.cells #[.int .i64 p, .int .i64 q, .int .i64 r, .int .i64 s, .int .i64 t, .int .i64 u] 33)
          have kB := Blk.new w9 #[.int .i64 p, .int .i64 q, .int .i64 r, .int .i64 s, .int .i64 t, .int .i64 u] 33
          have bb10 := bb9.alloc bb9.size (.cells #[.int .i64 p, .int .i64 q, .int .i64 r, .int .i64 s, .int .i64 t, .int .i64 u] 33)
          clear hb9 bb9 bb8
          go_upto_region 11 with (fail)
          generalize w9.alloc _ = w10 at *
          generalize w9.heap.size = rB at *
          go_wp2_with fail
          refine (H3.out _ (HT.out.below bb10)).mono ?_
          rintro e w11 ⟨rfl, hb11⟩
          have bb11 := below_step hb11 bb10.size bb10
          replace kA := kA.next hb11
          replace kB := kB.next hb11
          clear hb11 bb10
          go_wp2_with fail
          refine (H4.out _ (HT.out.below bb11)).mono ?_
          rintro e w12 ⟨rfl, hb12⟩
          have bb12 := below_step hb12 bb11.size bb11
          replace kA := kA.next hb12
          replace kB := kB.next hb12
          clear hb12 bb11 H1 H2 H3 H4
          have kA0 : (w12).cell? ⟨rA, 0, none⟩ = some (.int .i64 p) := kA.cell 0; have kA1 : (w12).cell? ⟨rA, 1, none⟩ = some (.int .i64 q) := kA.cell 1; have kA2 : (w12).cell? ⟨rA, 2, none⟩ = some (.int .i64 r) := kA.cell 2; have kA3 : (w12).cell? ⟨rA, 3, none⟩ = some (.int .i64 s) := kA.cell 3; have kA4 : (w12).cell? ⟨rA, 4, none⟩ = some (.int .i64 t) := kA.cell 4; have kA5 : (w12).cell? ⟨rA, 5, none⟩ = some (.int .i64 u) := kA.cell 5; have kAl : rA < (w12).heap.size := kA.lt
          have kB0 : (w12).cell? ⟨rB, 0, none⟩ = some (.int .i64 p) := kB.cell 0; have kB1 : (w12).cell? ⟨rB, 1, none⟩ = some (.int .i64 q) := kB.cell 1; have kB2 : (w12).cell? ⟨rB, 2, none⟩ = some (.int .i64 r) := kB.cell 2; have kB3 : (w12).cell? ⟨rB, 3, none⟩ = some (.int .i64 s) := kB.cell 3; have kB4 : (w12).cell? ⟨rB, 4, none⟩ = some (.int .i64 t) := kB.cell 4; have kB5 : (w12).cell? ⟨rB, 5, none⟩ = some (.int .i64 u) := kB.cell 5; have kBl : rB < (w12).heap.size := kB.lt
          go_wp2_with fail
          refine (H5.out _).mono ?_
          rintro e w13 ⟨rfl, hb13⟩
          have bb13 := below_step hb13 bb12.size bb12
          clear kA0 kA1 kA2 kA3 kA4 kA5 kAl kB0 kB1 kB2 kB3 kB4 kB5 kBl kB H5
          replace kA := kA.next hb13
          clear hb13 bb12
          cases b1
          · have kA0 : (w13).cell? ⟨rA, 0, none⟩ = some (.int .i64 p) := kA.cell 0; have kA1 : (w13).cell? ⟨rA, 1, none⟩ = some (.int .i64 q) := kA.cell 1; have kA2 : (w13).cell? ⟨rA, 2, none⟩ = some (.int .i64 r) := kA.cell 2; have kA3 : (w13).cell? ⟨rA, 3, none⟩ = some (.int .i64 s) := kA.cell 3; have kA4 : (w13).cell? ⟨rA, 4, none⟩ = some (.int .i64 t) := kA.cell 4; have kA5 : (w13).cell? ⟨rA, 5, none⟩ = some (.int .i64 u) := kA.cell 5; have kAl : rA < (w13).heap.size := kA.lt
            go_wp2_with fail
            refine (G1.out _).mono ?_
            rintro e w14 ⟨rfl, hb14⟩
            have bb14 := below_step hb14 bb13.size bb13
            replace kA := kA.next hb14
            clear kA0 kA1 kA2 kA3 kA4 kA5 kAl
            have kA0 : (w14).cell? ⟨rA, 0, none⟩ = some (.int .i64 p) := kA.cell 0; have kA1 : (w14).cell? ⟨rA, 1, none⟩ = some (.int .i64 q) := kA.cell 1; have kA2 : (w14).cell? ⟨rA, 2, none⟩ = some (.int .i64 r) := kA.cell 2; have kA3 : (w14).cell? ⟨rA, 3, none⟩ = some (.int .i64 s) := kA.cell 3; have kA4 : (w14).cell? ⟨rA, 4, none⟩ = some (.int .i64 t) := kA.cell 4; have kA5 : (w14).cell? ⟨rA, 5, none⟩ = some (.int .i64 u) := kA.cell 5; have kAl : rA < (w14).heap.size := kA.lt
            go_wp2_with fail
            refine (G2.out _).mono ?_
            rintro e w15 ⟨rfl, hb15⟩
            have bb15 := below_step hb15 bb14.size bb14
            replace kA := kA.next hb15
            clear kA0 kA1 kA2 kA3 kA4 kA5 kAl
            have kA0 : (w15).cell? ⟨rA, 0, none⟩ = some (.int .i64 p) := kA.cell 0; have kA1 : (w15).cell? ⟨rA, 1, none⟩ = some (.int .i64 q) := kA.cell 1; have kA2 : (w15).cell? ⟨rA, 2, none⟩ = some (.int .i64 r) := kA.cell 2; have kA3 : (w15).cell? ⟨rA, 3, none⟩ = some (.int .i64 s) := kA.cell 3; have kA4 : (w15).cell? ⟨rA, 4, none⟩ = some (.int .i64 t) := kA.cell 4; have kA5 : (w15).cell? ⟨rA, 5, none⟩ = some (.int .i64 u) := kA.cell 5; have kAl : rA < (w15).heap.size := kA.lt
            go_wp2_with fail
            refine (G3.out _).mono ?_
            rintro e w16 ⟨rfl, hb16⟩
            have bb16 := below_step hb16 bb15.size bb15
            have kQ := Blk.new w16 #[.int .i64 a, .int .i64 b, .int .i64 c] 41
            have bb17 := bb16.alloc bb16.size (.cells #[.int .i64 a, .int .i64 b, .int .i64 c] 41)
            clear kA0 kA1 kA2 kA3 kA4 kA5 kAl
            simp only [if_true]
            go_upto_region 21 with (fail)
            generalize w16.alloc _ = w17 at *
            generalize w16.heap.size = rQ at *
            go_wp2_with fail
            refine (G4.out _).mono ?_
            rintro e w18 ⟨rfl, hb18⟩
            have bb18 := below_step hb18 bb17.size bb17
            replace kQ := (kQ.next hb18).alloc (.cells #[.int .i64 ck, .int .i64 0] 45)
            have kK := Blk.new w18 #[.int .i64 ck, .int .i64 0] 45
            have bb19 := bb18.alloc bb18.size (.cells #[.int .i64 ck, .int .i64 0] 45)
            simp only [if_true]
            go_upto_region 25 with (fail)
            generalize w18.alloc _ = w19 at *
            generalize w18.heap.size = rK at *
            have kQ0 : (w19).cell? ⟨rQ, 0, none⟩ = some (.int .i64 a) := kQ.cell 0; have kQ1 : (w19).cell? ⟨rQ, 1, none⟩ = some (.int .i64 b) := kQ.cell 1; have kQ2 : (w19).cell? ⟨rQ, 2, none⟩ = some (.int .i64 c) := kQ.cell 2; have kQl : rQ < (w19).heap.size := kQ.lt
            have kK0 : (w19).cell? ⟨rK, 0, none⟩ = some (.int .i64 ck) := kK.cell 0; have kK1 : (w19).cell? ⟨rK, 1, none⟩ = some (.int .i64 0) := kK.cell 1; have kKl : rK < (w19).heap.size := kK.lt
            go_wp2_with fail
            refine (G5.out _).mono ?_
            rintro e w20 ⟨rfl, hb20⟩
            have bb20 := below_step hb20 bb19.size bb19
            go_wp2
            go_ret
            exact ⟨rfl, bb20⟩
          · obtain ⟨h1, h2⟩ := HF.out rfl
            have h3 : ¬ (fa < fb) := by omega
            obtain ⟨z, hz⟩ : ∃ z, (fa == 2 * fb) = z := ⟨_, rfl⟩
            rw [hz] at h2
            cases z
            · subst h2
              have kA0 : (w13).cell? ⟨rA, 0, none⟩ = some (.int .i64 p) := kA.cell 0; have kA1 : (w13).cell? ⟨rA, 1, none⟩ = some (.int .i64 q) := kA.cell 1; have kA2 : (w13).cell? ⟨rA, 2, none⟩ = some (.int .i64 r) := kA.cell 2; have kA3 : (w13).cell? ⟨rA, 3, none⟩ = some (.int .i64 s) := kA.cell 3; have kA4 : (w13).cell? ⟨rA, 4, none⟩ = some (.int .i64 t) := kA.cell 4; have kA5 : (w13).cell? ⟨rA, 5, none⟩ = some (.int .i64 u) := kA.cell 5; have kAl : rA < (w13).heap.size := kA.lt
              go_wp2_with fail
              refine (G1.out _).mono ?_
              rintro e w14 ⟨rfl, hb14⟩
              have bb14 := below_step hb14 bb13.size bb13
              replace kA := kA.next hb14
              clear kA0 kA1 kA2 kA3 kA4 kA5 kAl
              have kA0 : (w14).cell? ⟨rA, 0, none⟩ = some (.int .i64 p) := kA.cell 0; have kA1 : (w14).cell? ⟨rA, 1, none⟩ = some (.int .i64 q) := kA.cell 1; have kA2 : (w14).cell? ⟨rA, 2, none⟩ = some (.int .i64 r) := kA.cell 2; have kA3 : (w14).cell? ⟨rA, 3, none⟩ = some (.int .i64 s) := kA.cell 3; have kA4 : (w14).cell? ⟨rA, 4, none⟩ = some (.int .i64 t) := kA.cell 4; have kA5 : (w14).cell? ⟨rA, 5, none⟩ = some (.int .i64 u) := kA.cell 5; have kAl : rA < (w14).heap.size := kA.lt
              go_wp2_with fail
              refine (G2.out _).mono ?_
              rintro e w15 ⟨rfl, hb15⟩
              have bb15 := below_step hb15 bb14.size bb14
              replace kA := kA.next hb15
              clear kA0 kA1 kA2 kA3 kA4 kA5 kAl
              have kA0 : (w15).cell? ⟨rA, 0, none⟩ = some (.int .i64 p) := kA.cell 0; have kA1 : (w15).cell? ⟨rA, 1, none⟩ = some (.int .i64 q) := kA.cell 1; have kA2 : (w15).cell? ⟨rA, 2, none⟩ = some (.int .i64 r) := kA.cell 2; have kA3 : (w15).cell? ⟨rA, 3, none⟩ = some (.int .i64 s) := kA.cell 3; have kA4 : (w15).cell? ⟨rA, 4, none⟩ = some (.int .i64 t) := kA.cell 4; have kA5 : (w15).cell? ⟨rA, 5, none⟩ = some (.int .i64 u) := kA.cell 5; have kAl : rA < (w15).heap.size := kA.lt
              go_wp2_with fail
              refine (G3.out _).mono ?_
              rintro e w16 ⟨rfl, hb16⟩
              have bb16 := below_step hb16 bb15.size bb15
              have kQ := Blk.new w16 #[.int .i64 a, .int .i64 b, .int .i64 c] 41
              have bb17 := bb16.alloc bb16.size (.cells #[.int .i64 a, .int .i64 b, .int .i64 c] 41)
              clear kA0 kA1 kA2 kA3 kA4 kA5 kAl
              simp only [if_true]
              go_upto_region 21 with (fail)
              generalize w16.alloc _ = w17 at *
              generalize w16.heap.size = rQ at *
              go_wp2_with fail
              refine (G4.out _).mono ?_
              rintro e w18 ⟨rfl, hb18⟩
              have bb18 := below_step hb18 bb17.size bb17
              replace kQ := (kQ.next hb18).alloc (.cells #[.int .i64 ck, .int .i64 0] 45)
              have kK := Blk.new w18 #[.int .i64 ck, .int .i64 0] 45
              have bb19 := bb18.alloc bb18.size (.cells #[.int .i64 ck, .int .i64 0] 45)
              simp only [if_true]
              go_upto_region 25 with (fail)
              generalize w18.alloc _ = w19 at *
              generalize w18.heap.size = rK at *
              have kQ0 : (w19).cell? ⟨rQ, 0, none⟩ = some (.int .i64 a) := kQ.cell 0; have kQ1 : (w19).cell? ⟨rQ, 1, none⟩ = some (.int .i64 b) := kQ.cell 1; have kQ2 : (w19).cell? ⟨rQ, 2, none⟩ = some (.int .i64 c) := kQ.cell 2; have kQl : rQ < (w19).heap.size := kQ.lt
              have kK0 : (w19).cell? ⟨rK, 0, none⟩ = some (.int .i64 ck) := kK.cell 0; have kK1 : (w19).cell? ⟨rK, 1, none⟩ = some (.int .i64 0) := kK.cell 1; have kKl : rK < (w19).heap.size := kK.lt
              go_wp2_with fail
              refine (G5.out _).mono ?_
              rintro e w20 ⟨rfl, hb20⟩
              have bb20 := below_step hb20 bb19.size bb19
              go_wp2
              go_ret
              exact ⟨rfl, bb20⟩
            · subst h2
              have kA0 : (w13).cell? ⟨rA, 0, none⟩ = some (.int .i64 p) := kA.cell 0; have kA1 : (w13).cell? ⟨rA, 1, none⟩ = some (.int .i64 q) := kA.cell 1; have kA2 : (w13).cell? ⟨rA, 2, none⟩ = some (.int .i64 r) := kA.cell 2; have kA3 : (w13).cell? ⟨rA, 3, none⟩ = some (.int .i64 s) := kA.cell 3; have kA4 : (w13).cell? ⟨rA, 4, none⟩ = some (.int .i64 t) := kA.cell 4; have kA5 : (w13).cell? ⟨rA, 5, none⟩ = some (.int .i64 u) := kA.cell 5; have kAl : rA < (w13).heap.size := kA.lt
              go_wp2_with fail
              refine (G1.out _).mono ?_
              rintro e w14 ⟨rfl, hb14⟩
              have bb14 := below_step hb14 bb13.size bb13
              replace kA := kA.next hb14
              clear kA0 kA1 kA2 kA3 kA4 kA5 kAl
              have kA0 : (w14).cell? ⟨rA, 0, none⟩ = some (.int .i64 p) := kA.cell 0; have kA1 : (w14).cell? ⟨rA, 1, none⟩ = some (.int .i64 q) := kA.cell 1; have kA2 : (w14).cell? ⟨rA, 2, none⟩ = some (.int .i64 r) := kA.cell 2; have kA3 : (w14).cell? ⟨rA, 3, none⟩ = some (.int .i64 s) := kA.cell 3; have kA4 : (w14).cell? ⟨rA, 4, none⟩ = some (.int .i64 t) := kA.cell 4; have kA5 : (w14).cell? ⟨rA, 5, none⟩ = some (.int .i64 u) := kA.cell 5; have kAl : rA < (w14).heap.size := kA.lt
              go_wp2_with fail
              refine (G2.out _).mono ?_
              rintro e w15 ⟨rfl, hb15⟩
              have bb15 := below_step hb15 bb14.size bb14
              replace kA := kA.next hb15
              clear kA0 kA1 kA2 kA3 kA4 kA5 kAl
              have kA0 : (w15).cell? ⟨rA, 0, none⟩ = some (.int .i64 p) := kA.cell 0; have kA1 : (w15).cell? ⟨rA, 1, none⟩ = some (.int .i64 q) := kA.cell 1; have kA2 : (w15).cell? ⟨rA, 2, none⟩ = some (.int .i64 r) := kA.cell 2; have kA3 : (w15).cell? ⟨rA, 3, none⟩ = some (.int .i64 s) := kA.cell 3; have kA4 : (w15).cell? ⟨rA, 4, none⟩ = some (.int .i64 t) := kA.cell 4; have kA5 : (w15).cell? ⟨rA, 5, none⟩ = some (.int .i64 u) := kA.cell 5; have kAl : rA < (w15).heap.size := kA.lt
              go_wp2_with fail
              refine (G3.out _).mono ?_
              rintro e w16 ⟨rfl, hb16⟩
              have bb16 := below_step hb16 bb15.size bb15
              have kQ := Blk.new w16 #[.int .i64 a, .int .i64 b, .int .i64 c] 41
              have bb17 := bb16.alloc bb16.size (.cells #[.int .i64 a, .int .i64 b, .int .i64 c] 41)
              clear kA0 kA1 kA2 kA3 kA4 kA5 kAl
              simp only [if_true]
              go_upto_region 21 with (fail)
              generalize w16.alloc _ = w17 at *
              generalize w16.heap.size = rQ at *
              go_wp2_with fail
              refine (G4.out _).mono ?_
              rintro e w18 ⟨rfl, hb18⟩
              have bb18 := below_step hb18 bb17.size bb17
              replace kQ := (kQ.next hb18).alloc (.cells #[.int .i64 ck, .int .i64 0] 45)
              have kK := Blk.new w18 #[.int .i64 ck, .int .i64 0] 45
              have bb19 := bb18.alloc bb18.size (.cells #[.int .i64 ck, .int .i64 0] 45)
              simp only [if_true]
              go_upto_region 25 with (fail)
              generalize w18.alloc _ = w19 at *
              generalize w18.heap.size = rK at *
              have kQ0 : (w19).cell? ⟨rQ, 0, none⟩ = some (.int .i64 a) := kQ.cell 0; have kQ1 : (w19).cell? ⟨rQ, 1, none⟩ = some (.int .i64 b) := kQ.cell 1; have kQ2 : (w19).cell? ⟨rQ, 2, none⟩ = some (.int .i64 c) := kQ.cell 2; have kQl : rQ < (w19).heap.size := kQ.lt
              have kK0 : (w19).cell? ⟨rK, 0, none⟩ = some (.int .i64 ck) := kK.cell 0; have kK1 : (w19).cell? ⟨rK, 1, none⟩ = some (.int .i64 0) := kK.cell 1; have kKl : rK < (w19).heap.size := kK.lt
              go_wp2_with fail
              refine (G5.out _).mono ?_
              rintro e w20 ⟨rfl, hb20⟩
              have bb20 := below_step hb20 bb19.size bb19
              go_wp2
              go_ret
              exact ⟨rfl, bb20⟩
end Go.Proofs.YtbcjlhbpgcjddaaGreatDoor
