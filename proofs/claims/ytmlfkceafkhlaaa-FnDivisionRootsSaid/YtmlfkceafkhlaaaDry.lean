/- The walk of the law FnDivisionRoots. -/
import Derived.Test.YtmlfkceafkhlaaaDrx
namespace Go.Proofs.Ytmlfkceafkhlaaa
open Go.RowKit

set_option maxRecDepth 1000000 in
set_option maxHeartbeats 4000000 in
theorem walk_FnDivisionRoots (v0 : Value) (xs : List Int) (v1 : Value) (ys : List Int) (w : World) (r0 : RdB w w.heap.size v0 xs) (r1 : RdB w w.heap.size v1 ys) :
    Calls Try.prog 3 #[v0, v1] w fun e w' => e = .returned (.bool true) ∧ Below w.heap.size w w' := by
  have HD := Lib.hid (d_drawRoots v0 xs w r0)
  have R1 := Lib.hid r1
  obtain ⟨a0, cap0, rfl, hm0, _⟩ := r0
  obtain ⟨a1, cap1, rfl, hm1, _⟩ := r1
  have hml : maxLen = 9223372036854775807 := by decide +kernel
  by_cases hbig : 1048576 < wrap64 ((xs.length : Int) + ys.length)
  · go_enter Try.func3, Try.ntmps3
    go_wp2
    go_ret
    exact ⟨rfl, Below.refl _ _⟩
  go_enter Try.func3, Try.ntmps3
  go_wp2_with fail
  refine HD.out.mono ?_
  rintro e w1 ⟨A, B, p, n, rfl, ⟨hAB, hp, hn⟩, hb1⟩
  clear HD
  have hz1 := hb1.size
  go_wp2_with fail
  refine (c_iRootsOfDivision A B p n _).mono ?_
  rintro e w2 ⟨a2, rfl, o2, hb2⟩
  have x2 := Bx.new hb2
  have hz2 : w1.heap.size ≤ w2.heap.size := by have := hb2.size; simp at this; omega
  have bb2 : Below w.heap.size w w2 := by (repeat' (first | (with_reducible exact Below.refl _ _) | (with_reducible refine below_step (by assumption) ?_ ?_) | (with_reducible refine Below.alloc ?_ ?_ _) | (with_reducible refine Below.setCell ?_ ?_ _) | (with_reducible refine below_drewN ?_ _) | (with_reducible refine Below.drew ?_) | omega | (simp; omega) | (simp; done)))
  obtain ⟨f0, f1, _, _, f4⟩ := id x2
  go_wp2_with fail
  refine (c_sRootsOfDivision A B p n _).mono ?_
  rintro e w3 ⟨a3, rfl, o3, hb3⟩
  have hz3 := hb3.size
  have bb3 := below_step hb3 bb2.size bb2
  have x3 := x2.below hb3
  have q2 := o2.rd.below hb3
  have q3 := o3.rd
  clear o2 o3 f0 f1 f4 x2
  go_wp2_with fail
  refine (d_drawOrder _ ys _ (R1.out.later bb3)).mono ?_
  rintro e w4 ⟨C, D, p', x, rfl, ⟨hCD, hp', hx⟩, hb4⟩
  have hz4 := hb4.size
  have bb4 := below_step hb4 bb3.size bb3
  replace x3 := x3.below hb4
  replace q2 := q2.below hb4
  replace q3 := q3.below hb4
  go_wp2_with fail
  refine (c_iOrderAtX C D p' x _).mono ?_
  rintro e w5 ⟨rfl, hb5⟩
  have y5 := Bx.new hb5
  have x5 := Bx.below (x3.alloc' _) hb5
  have hq5 : Below w4.heap.size w4 w5 := by (repeat' (first | (with_reducible exact Below.refl _ _) | (with_reducible refine below_step (by assumption) ?_ ?_) | (with_reducible refine Below.alloc ?_ ?_ _) | (with_reducible refine Below.setCell ?_ ?_ _) | (with_reducible refine below_drewN ?_ _) | (with_reducible refine Below.drew ?_) | omega | (simp; omega) | (simp; done)))
  have hz5 := hq5.size
  have bb5 := below_step hq5 bb4.size bb4
  replace q2 := q2.below hq5
  replace q3 := q3.below hq5
  clear hb5 x3
  obtain ⟨f0, f1, _, _, f4⟩ := id y5
  go_wp2_with fail
  refine (c_sOrderAtX C D p' x _).mono ?_
  rintro e w6 ⟨rfl, hb6⟩
  have hz6 := hb6.size
  have bb6 := below_step hb6 bb5.size bb5
  have y6 := y5.below hb6
  have x6 := x5.below hb6
  replace q2 := q2.below hb6
  replace q3 := q3.below hb6
  clear f0 f1 f4 x5 y5
  go_wp2_with fail
  refine (d_drawDegree _ ys _ (R1.out.later bb6)).mono ?_
  rintro e w7 ⟨k, rfl, hk0, hk1, hb7⟩
  have hz7 := hb7.size
  have bb7 := below_step hb7 bb6.size bb6
  have y7 := y6.below hb7
  have x7 := x6.below hb7
  replace q2 := q2.below hb7
  replace q3 := q3.below hb7
  clear x6 y6
  go_wp2_with fail
  refine (c_iDegree k _).mono ?_
  rintro e _ ⟨rfl, rfl⟩
  go_wp2_with fail
  refine (c_sDegree k _).mono ?_
  rintro e _ ⟨rfl, rfl⟩
  go_wp2_with fail
  refine (c_iLeading k _).mono ?_
  rintro e _ ⟨rfl, rfl⟩
  go_wp2_with fail
  refine (c_sLeading k _).mono ?_
  rintro e w7 ⟨rfl, rfl⟩
  obtain ⟨f0, f1, _, _, f4⟩ := id y7
  go_wp2_with fail
  refine (c_iLiesOnCurve C D p' x _).mono ?_
  rintro e w8 ⟨rfl, hb8⟩
  have hz8 := hb8.size
  have bb8 := below_step hb8 bb7.size bb7
  have y8 := y7.below hb8
  have x8 := x7.below hb8
  replace q2 := q2.below hb8
  replace q3 := q3.below hb8
  clear f0 f1 f4 x7 y7
  obtain ⟨f0, f1, _, _, f4⟩ := id y8
  go_wp2_with fail
  refine (c_sLiesOnCurve C D p' x _).mono ?_
  rintro e w9 ⟨rfl, hb9⟩
  have hz9 := hb9.size
  have bb9 := below_step hb9 bb8.size bb8
  have y9 := y8.below hb9
  have x9 := x8.below hb9
  replace q2 := q2.below hb9
  replace q3 := q3.below hb9
  clear f0 f1 f4 x8 y8
  have hL := rtRes_len A B p n
  have HO : Hid (OrdF C D p' x (oOk C D p' x) (rsZ (oOk C D p' x) (ordN C D p' x))) := Lib.hid fun h => by
    obtain ⟨h1, h2, h3, h4, h5⟩ := ord_facts h
    exact ⟨ordN C D p' x, by unfold rsZ; rw [if_pos h], h2, h1, h3, h4, h5⟩
  have HR : Hid (RootF A B p n (dvOk A B p 0 n) (rtRes A B p n)) := Lib.hid fun h => by
    obtain ⟨h1, h2⟩ := dvOk_of h
    obtain ⟨_, _, h3, _, _⟩ := fit_of h1
    refine ⟨⟨by omega, by omega, inB_mk h2.1 h2.2⟩, ?_, rt_pair, fun y hy => rt_facts h hy⟩
    by_cases h4 : n % p = 0
    · exact .inl h4
    · have := rt_deg h h4
      right
      rw [degV_nat h2]
      omega
  have HF := Lib.hid (fun h : oOk C D p' x = true => (ord_facts h).1)
  generalize rsZ (oOk C D p' x) (ordN C D p' x) = oV at HO ⊢
  generalize oOk C D p' x = one at HO HF ⊢
  generalize (fitB C D p' x && liesV C D p' x) = lv
  generalize fitB C D p' x = fv at HF ⊢
  generalize rtRes A B p n = L at q2 q3 HR hL
  generalize dvOk A B p 0 n = ov at HR ⊢
  generalize degV k = d1
  generalize ledV k = d2
  generalize inB k 1 40 = d3
  go_upto_region 16 with (fail)
  go_cut [191] from 328 (fun s wc => s = .bool false ∧ Below w9.heap.size w9 wc)
  case first =>
    go_wp2_with fail
    refine (c_qInts _ _ L (by omega) _ q2 q3).mono ?_
    rintro e w10 ⟨rfl, hb10⟩
    clear HO HR q2 q3
    replace HF := HF.out
    cases one
    · go_wp2
      go_meet
      case rel => exact ⟨rfl, hb10⟩
    · obtain rfl : fv = true := HF rfl
      clear HF
      go_wp2
      go_meet
      case rel => exact ⟨rfl, hb10⟩
  case rest =>
    obtain ⟨rfl, hbc⟩ := hcut
    have bbc := below_step hbc bb9.size bb9
    go_upto_if 191 with (fail)
    go_cut [] from 328 (fun wd => wc = wd)
    case first =>
      go_wp2
      go_meet
      case rel => rfl
    subst hcut
    apply_assumption
    refine r18 _ A B p n ov a3 L hL _ C D p' x one oV _ (y9.below hbc) HO (x9.below hbc) (q3.below hbc) HR (fun a w' hd => ?_)
    refine bodyPost_ret (v := .bool true) ?_ hd.2.1 ⟨rfl, below_step hd.2.2 bbc.size bbc⟩
    have h4 := hd.1
    simp [results, Try.results3, go_sem, h4]
end Go.Proofs.Ytmlfkceafkhlaaa
