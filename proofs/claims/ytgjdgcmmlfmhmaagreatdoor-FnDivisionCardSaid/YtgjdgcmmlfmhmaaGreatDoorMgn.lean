/- Several texts joined: DvX. -/
import Derived.Test.YtgjdgcmmlfmhmaaGreatDoorMgi
import Derived.Test.YtgjdgcmmlfmhmaaGreatDoorDvM
import Derived.Test.YtgjdgcmmlfmhmaaGreatDoorDvR
import Derived.Test.YtgjdgcmmlfmhmaaGreatDoorMgl
import Derived.Test.YtgjdgcmmlfmhmaaGreatDoorMgm
/- DvX -/
namespace Go.Proofs.YtgjdgcmmlfmhmaaGreatDoor
open Go.RowKit

/-- what is known of a row -/
def RowF (n : Int) (L : List Int) (one : Bool) (dv : Int) : Prop := one = true → ∃ N : Nat, n = (N : Int) + 1 ∧ N ≤ 39 ∧ L.length = N + 1 ∧ L[N]?.getD 0 = dv
theorem row_f (A B p x n : Int) : RowF n (drRes A B p x n) (dvOk A B p x n) (rsZ (dvOk A B p x n) (dvE A B p x n.toNat)) := fun h => by
  have hn := (dvOk_of h).2
  refine ⟨(n - 1).toNat, by omega, by omega, ?_, ?_⟩
  · unfold drRes
    rw [if_pos h, dvR_len]
    omega
  · unfold drRes
    rw [if_pos h, dvR_get _ _ _ _ _ _ (by omega), h]
    show _ = dvE A B p x n.toNat
    rw [show (n - 1).toNat + 1 = n.toNat by omega]
theorem whf_of {C D y k : Int} {R : Nat} {w : World} {ad : Option Addr} {cap : Nat} (hB : Blk R #[.bool (decide (dwVal C D y k < 0)), .slice ad (dg (dwVal C D y k).natAbs).length cap] 37 w) (hr : RdL w (.slice ad (dg (dwVal C D y k).natAbs).length cap) (dg (dwVal C D y k).natAbs)) : WhF C D y k R (dwFine C D y k) w := fun h => by
  have h2 := h
  unfold dwFine dwOk at h2
  simp only [Bool.and_eq_true] at h2
  have hv : dwVal C D y k = dwE C D y k.toNat := by unfold dwVal; rw [if_pos h]
  exact ⟨_, ad, cap, hB, hr, by rw [hv]; exact h2.2, hv, inB_true h2.1.1.2, inB_true h2.1.2⟩
theorem mul_f (A B p x n : Int) : MulF A B p x n (dvOk A B p x n && !zB A B p x n) (rsZ (dvOk A B p x n && !zB A B p x n) (mxV A B p x n.toNat)) := fun h => by
  have h' := h
  rw [Bool.and_eq_true] at h'
  obtain ⟨h1, h2⟩ := dvOk_of h'.1
  exact ⟨h1, h2.1, by simpa using h'.2, by rw [h]; rfl⟩
set_option maxRecDepth 1000000 in
set_option maxHeartbeats 4000000 in
theorem walk_FnDivision (v0 : Value) (xs : List Int) (v1 : Value) (ys : List Int) (w : World) (r0 : RdB w w.heap.size v0 xs) (r1 : RdB w w.heap.size v1 ys) (ht : TabI w) :
    Calls Tryz.prog 3 #[v0, v1] w fun e w' => e = .returned (.bool true) ∧ Below w.heap.size w w' := by
  have HD := Lib.hid (d_drawMult v0 xs w r0)
  have R1 := Lib.hid r1
  have HT := Lib.hid ht
  obtain ⟨a0, cap0, rfl, hm0, _⟩ := r0
  obtain ⟨a1, cap1, rfl, hm1, _⟩ := r1
  have hml : maxLen = 9223372036854775807 := by decide +kernel
  clear ht
  by_cases hbig : 1048576 < wrap64 ((xs.length : Int) + ys.length)
  · go_enter Tryz.func3, Tryz.ntmps3
    go_wp2
    go_ret
    exact ⟨rfl, Below.refl _ _⟩
  go_enter Tryz.func3, Tryz.ntmps3
  go_wp2_with fail
  refine HD.out.mono ?_
  rintro e w1 ⟨A, B, p, x, n, rfl, ⟨hAB, hp, hx, hn⟩, hb1⟩
  clear HD
  have HM := Lib.hid (mul_f A B p x n)
  have HR := Lib.hid (row_f A B p x n)
  have hL := drRes_len A B p x n
  have h1 := c_iMultipleX A B p x n
  have h2 := c_sMultipleX A B p x n
  unfold mxOk at h1 h2
  have h3 := c_iDivisionModulo A B p x n
  have h4 := c_sDivisionModulo A B p x n
  have h5 := c_iDivisionRow A B p x n
  have h6 := c_sDivisionRow A B p x n
  have h7 := c_iIsDivided A B p x n
  have h8 := c_sIsDivided A B p x n
  generalize rsZ (dvOk A B p x n && !zB A B p x n) (mxV A B p x n.toNat) = mv at *
  generalize rsZ (dvOk A B p x n) (dvE A B p x n.toNat) = dv at *
  generalize drRes A B p x n = L at *
  generalize zB A B p x n = z at *
  generalize dvOk A B p x n = one at *
  have H1 := Lib.hid h1
  have H2 := Lib.hid h2
  have H3 := Lib.hid h3
  have H4 := Lib.hid h4
  have H5 := Lib.hid h5
  have H6 := Lib.hid h6
  have H7 := Lib.hid h7
  have H8 := Lib.hid h8
  clear h1 h2 h3 h4 h5 h6 h7 h8
  have hz1 := hb1.size
  go_wp2_with fail
  refine (H1.out _).mono ?_
  rintro e w2 ⟨rfl, hb2⟩
  have x2 := Bx.new hb2
  have hz2 : w1.heap.size ≤ w2.heap.size := by have := hb2.size; simp at this; omega
  have bb2 : Below w.heap.size w w2 := by (repeat' (first | (with_reducible exact Below.refl _ _) | (with_reducible refine below_step (by assumption) ?_ ?_) | (with_reducible refine Below.alloc ?_ ?_ _) | (with_reducible refine Below.setCell ?_ ?_ _) | (with_reducible refine below_drewN ?_ _) | (with_reducible refine Below.drew ?_) | omega | (simp; omega) | (simp; done)))
  clear H1 hb2 hz2 hz1 hb1
  obtain ⟨f0, f1, _, _, f4⟩ := id x2
  -- 2 the world ahead, 3 the world behind, H2.out _ the contract
  go_wp2_with fail
  refine (H2.out _).mono ?_
  rintro e w3 ⟨rfl, hb3⟩
  have bb3 := below_step hb3 bb2.size bb2
  have x3 := x2.below hb3
  clear f0 f1 f4 x2 hb3
  obtain ⟨f0, f1, _, _, f4⟩ := id x3
  -- 3 the world ahead, 4 the world behind, H3.out _ the contract
  go_wp2_with fail
  refine (H3.out _).mono ?_
  rintro e w4 ⟨rfl, hb4⟩
  have bb4 := below_step hb4 bb3.size bb3
  have x4 := x3.below hb4
  clear f0 f1 f4 x3 hb4
  obtain ⟨f0, f1, _, _, f4⟩ := id x4
  -- 4 the world ahead, 5 the world behind, H4.out _ the contract
  go_wp2_with fail
  refine (H4.out _).mono ?_
  rintro e w5 ⟨rfl, hb5⟩
  have bb5 := below_step hb5 bb4.size bb4
  have x5 := x4.below hb5
  clear f0 f1 f4 x4 hb5
  clear H2 H3 H4 bb2 bb3 bb4
  obtain ⟨f0, f1, _, _, f4⟩ := id x5
  go_wp2_with fail
  refine (H5.out _).mono ?_
  rintro e w6 ⟨v6, rfl, o6, hb6⟩
  have bb6 := below_step hb6 bb5.size bb5
  have x6 := x5.below hb6
  have q6 := o6.rd
  clear f0 f1 f4 x5 hb6 H5 bb5 o6
  obtain ⟨f0, f1, _, _, f4⟩ := id x6
  go_wp2_with fail
  refine (H6.out _).mono ?_
  rintro e w7 ⟨v7, rfl, q7, _, hb7⟩
  have bb7 := below_step hb7 bb6.size bb6
  have x7 := x6.below hb7
  replace q6 := q6.below hb7
  clear f0 f1 f4 x6 hb7 H6 bb6
  obtain ⟨f0, f1, _, _, f4⟩ := id x7
  go_wp2_with fail
  refine (H7.out _).mono ?_
  rintro e w8 ⟨rfl, hb8⟩
  have bb8 := below_step hb8 bb7.size bb7
  have x8 := x7.below hb8
  replace q6 := q6.below hb8
  replace q7 := q7.below hb8
  clear f0 f1 f4 x7 hb8 H7 bb7
  obtain ⟨f0, f1, _, _, f4⟩ := id x8
  go_wp2_with fail
  refine (H8.out _).mono ?_
  rintro e w9 ⟨rfl, hb9⟩
  have bb9 := below_step hb9 bb8.size bb8
  have x9 := x8.below hb9
  replace q6 := q6.below hb9
  replace q7 := q7.below hb9
  clear f0 f1 f4 x8 hb9 H8 bb8
  go_wp2_with fail
  refine (d_drawDivWhole _ ys _ (R1.out.later bb9)).mono ?_
  rintro e w10 ⟨C, D, y, k, rfl, ⟨hCD, hy, hk⟩, hb10⟩
  have bb10 := below_step hb10 bb9.size bb9
  have x10 := x9.below hb10
  replace q6 := q6.below hb10
  replace q7 := q7.below hb10
  clear x9 hb10 bb9
  have h1 := c_iDivisionWhole C D y k
  have h2 := c_sDivisionWhole C D y k
  have h3 := c_iDivisionText C D y k
  have h4 := c_sDivisionText C D y k
  unfold DtPost at h3 h4
  have hV := dwVal_len C D y k
  have HW := Lib.hid (fun (R : Nat) (w : World) (ad : Option Addr) (cap : Nat) (a : Blk R _ _ w) (b : RdL w _ _) => @whf_of C D y k R w ad cap a b)
  generalize dwVal C D y k = V at *
  generalize dwFine C D y k = fine at *
  generalize (⟨(dtx C D y k).toArray⟩ : ByteArray) = X at *
  have H1 := Lib.hid h1
  have H2 := Lib.hid h2
  have H3 := Lib.hid h3
  have H4 := Lib.hid h4
  clear h1 h2 h3 h4
  have hz10 := bb10.size
  go_wp2_with fail
  refine (H1.out _).mono ?_
  rintro e w11 ⟨u11, rfl, hw11, hb11⟩
  have y11 := Bx.new hb11
  have x11 := Bx.below (x10.alloc' _) hb11
  have hq11 : Below w10.heap.size w10 w11 := by (repeat' (first | (with_reducible exact Below.refl _ _) | (with_reducible refine below_step (by assumption) ?_ ?_) | (with_reducible refine Below.alloc ?_ ?_ _) | (with_reducible refine Below.setCell ?_ ?_ _) | (with_reducible refine below_drewN ?_ _) | (with_reducible refine Below.drew ?_) | omega | (simp; omega) | (simp; done)))
  have bb11 := below_step hq11 bb10.size bb10
  replace q6 := q6.below hq11
  replace q7 := q7.below hq11
  clear x10 hb11 bb10 hq11 hz10 H1
  obtain ⟨l11, rfl, r11, _⟩ := hw11
  obtain ⟨s11, p11, rfl, _⟩ := id r11
  have k11 := Blk.new w11 #[.bool (decide (V < 0)), .slice s11 (dg V.natAbs).length p11] 37
  have hb12 : Below w11.heap.size w11 (w11.alloc (.cells #[.bool (decide (V < 0)), .slice s11 (dg V.natAbs).length p11] 37)) := (Below.refl _ _).alloc (Nat.le_refl _) _
  have bb12 := below_step hb12 bb11.size bb11
  have x12 := x11.below hb12
  have y12 := y11.below hb12
  replace q6 := q6.below hb12
  replace q7 := q7.below hb12
  replace r11 := r11.below hb12
  clear x11 y11 bb11 hb12
  go_upto_region 14 with (fail)
  generalize w11.alloc _ = w12 at *
  generalize w11.heap.size = R1' at *
  obtain ⟨f0, f1, _, _, f4⟩ := id y12
  go_wp2_with fail
  refine (H2.out _).mono ?_
  rintro e w13 ⟨u13, rfl, hw13, hb13⟩
  have bb13 := below_step hb13 bb12.size bb12
  have x13 := x12.below hb13
  have y13 := y12.below hb13
  have k13 := k11.next hb13
  replace q6 := q6.below hb13
  replace q7 := q7.below hb13
  replace r11 := r11.below hb13
  clear f0 f1 f4 x12 y12 k11 bb12 hb13 H2
  obtain ⟨l13, rfl, r13, _⟩ := hw13
  obtain ⟨s13, p13, rfl, _⟩ := id r13
  have j13 := Blk.new w13 #[.bool (decide (V < 0)), .slice s13 (dg V.natAbs).length p13] 37
  have hb14 : Below w13.heap.size w13 (w13.alloc (.cells #[.bool (decide (V < 0)), .slice s13 (dg V.natAbs).length p13] 37)) := (Below.refl _ _).alloc (Nat.le_refl _) _
  have bb14 := below_step hb14 bb13.size bb13
  have x14 := x13.below hb14
  have y14 := y13.below hb14
  have k14 := k13.next hb14
  replace q6 := q6.below hb14
  replace q7 := q7.below hb14
  replace r11 := r11.below hb14
  replace r13 := r13.below hb14
  clear x13 y13 k13 bb13 hb14
  go_upto_region 15 with (fail)
  generalize w13.alloc _ = w14 at *
  generalize w13.heap.size = R2' at *
  obtain ⟨f0, f1, _, _, f4⟩ := id y14
  go_wp2_with fail
  refine (H3.out _ (HT.out.below bb14)).mono ?_
  rintro e w15 ⟨rfl, hb15⟩
  have bb15 := below_step hb15 bb14.size bb14
  have x15 := x14.below hb15
  have y15 := y14.below hb15
  have k15 := k14.next hb15
  have j15 := j13.next hb15
  replace q6 := q6.below hb15
  replace q7 := q7.below hb15
  replace r11 := r11.below hb15
  replace r13 := r13.below hb15
  clear f0 f1 f4 x14 y14 k14 j13 bb14 hb15 H3
  obtain ⟨f0, f1, _, _, f4⟩ := id y15
  go_wp2_with fail
  refine (H4.out _ (HT.out.below bb15)).mono ?_
  rintro e w16 ⟨rfl, hb16⟩
  have bb16 := below_step hb16 bb15.size bb15
  have x16 := x15.below hb16
  have y16 := y15.below hb16
  have k16 := k15.next hb16
  have j16 := j15.next hb16
  replace q6 := q6.below hb16
  replace q7 := q7.below hb16
  replace r11 := r11.below hb16
  replace r13 := r13.below hb16
  clear f0 f1 f4 x15 y15 k15 j15 bb15 hb16 H4 HT
  go_upto_region 17 with (fail)
  go_cut [251] from 410 (fun s wc => s = .bool false ∧ Below w16.heap.size w16 wc)
  case first =>
    clear HM HR HW x16 y16
    cases one
    all_goals
      go_wp2_with fail
      refine (c_qInts _ _ L (by omega) _ q6 q7).mono ?_
      rintro e w17 ⟨rfl, hb17⟩
      have k17 := k16.next hb17
      have j17 := j16.next hb17
      have r11' := r11.below hb17
      have r13' := r13.below hb17
      have a0 : w17.cell? ⟨R1', 0, none⟩ = some (.bool (decide (V < 0))) := k17.cell 0
      have a1 : w17.cell? ⟨R1', 1, none⟩ = some (.slice s11 (dg V.natAbs).length p11) := k17.cell 1
      have b0 : w17.cell? ⟨R2', 0, none⟩ = some (.bool (decide (V < 0))) := j17.cell 0
      have b1 : w17.cell? ⟨R2', 1, none⟩ = some (.slice s13 (dg V.natAbs).length p13) := j17.cell 1
      have la := k17.lt
      have lb := j17.lt
      go_wp2_with fail
      refine (c_qWhole _ _ _ (dg V.natAbs) (by omega) _ r11' r13').mono ?_
      rintro e w18 ⟨rfl, hb18⟩
      have hbb := below_step hb18 hb17.size hb17
      go_wp2
      go_meet
      case rel => exact ⟨rfl, hbb⟩
  case rest =>
    obtain ⟨rfl, hbc⟩ := hcut
    go_upto_if 251 with (fail)
    go_cut [] from 410 (fun wd => wc = wd)
    case first =>
      go_wp2
      go_meet
      case rel => rfl
    subst hcut
    have bbc := below_step hbc bb16.size bb16
    have xc := x16.below hbc
    have yc := y16.below hbc
    have jc := j16.next hbc
    have rc := r13.below hbc
    replace q7 := q7.below hbc
    have HWF := Lib.hid (HW.out R2' wc s13 p13 jc rc)
    clear x16 y16 k16 j16 r11 r13 HW q6 bb16 hbc
    go_upto_region 19 with (fail)
    go_cut [267] from 410 (fun s wd => s = .bool false ∧ wc = wd)
    case first =>
      cases one
      · go_wp2
        go_meet
        case rel => exact ⟨rfl, rfl⟩
      · obtain ⟨N, rfl, hN, hLN, hdv⟩ := HR.out rfl
        obtain ⟨sa, cap, rfl, hf⟩ := q7
        obtain ⟨g, o, rfl, c0, hg⟩ := hf N (by omega)
        rw [hdv] at c0
        have hlen : (L.length : Int) = (N : Int) + 1 := by omega
        have i0 : (0 : Int) ≤ (N : Int) := by omega
        have i1 : (N : Int) < (L.length : Int) := by omega
        go_wp2
        go_meet
        case rel => exact ⟨rfl, rfl⟩
    case rest =>
      obtain ⟨rfl, rfl⟩ := hcut
      go_upto_if 267 with (fail)
      go_cut [] from 410 (fun wd => wc = wd)
      case first =>
        go_wp2
        go_meet
        case rel => rfl
      subst hcut
      apply_assumption
      refine r21 _ A B p x n _ mv _ C D y k fine _ _ xc HM yc HWF (fun a w' hd => ?_)
      refine bodyPost_ret (v := .bool true) ?_ hd.2.1 ⟨rfl, below_step hd.2.2 bbc.size bbc⟩
      have h4 := hd.1
      simp [results, Tryz.results3, go_sem, h4]
end Go.Proofs.YtgjdgcmmlfmhmaaGreatDoor
