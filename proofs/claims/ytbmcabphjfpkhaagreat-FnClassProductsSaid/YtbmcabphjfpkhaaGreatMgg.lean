/- Several texts joined: PdJ. -/
import Derived.Test.YtbmcabphjfpkhaaGreatMgb
import Derived.Test.YtbmcabphjfpkhaaGreatMge
import Derived.Test.YtbmcabphjfpkhaaGreatMgf
import Derived.Deep.Cut
/- PdJ -/
namespace Go.Proofs.YtbmcabphjfpkhaaGreat
set_option linter.all false
open Go.RowKit

theorem wrap_pow {i : Nat} (h : i ≤ 6) : wrap64 (2 ^ i) = ((2 ^ i : Nat) : Int) := by
  rcases (by omega : i = 0 ∨ i = 1 ∨ i = 2 ∨ i = 3 ∨ i = 4 ∨ i = 5 ∨ i = 6) with rfl | rfl | rfl | rfl | rfl | rfl | rfl <;> decide +kernel
/-- a found divisor: its quartic and its points -/
theorem fd_mem {A B n x : Int} {dual : Bool} (h : x ∈ fdL A B dual n) : tgB A B = true ∧ inB n 1 60 = true ∧ x ∈ sdv (sdB A B dual) ∧ ptB x (sdA A dual) ((sdB A B dual).tdiv x) (n.toNat + 1) = true ∧ (sdB A B dual).tdiv x ≠ 0 := by
  cases hb : fdB A B n
  · exfalso
    unfold fdL at h
    rw [hb] at h
    simp at h
  · unfold fdL at h
    rw [if_pos hb] at h
    unfold fdB at hb
    rw [Bool.and_eq_true] at hb
    unfold fnL at h
    rw [List.mem_filter] at h
    obtain ⟨_, s2, s3⟩ := sd_facts hb.1 dual
    have h4 := (sdv_facts s3 s2).1 x h.1
    refine ⟨hb.1, hb.2, h.1, h.2, fun e => ?_⟩
    have h5 : ((sdB A B dual).tdiv x).natAbs = (sdB A B dual).natAbs / x.natAbs := Int.natAbs_tdiv _ _
    rw [e] at h5
    have h6 := Nat.div_pos h4.2 (by omega : 0 < x.natAbs)
    omega
theorem fd_len (A B n : Int) (dual : Bool) : (fdL A B dual n).length ≤ 256 := by
  cases hb : fdB A B n
  · unfold fdL
    rw [hb]
    simp
  · unfold fdL
    rw [if_pos hb]
    unfold fdB at hb
    rw [Bool.and_eq_true] at hb
    obtain ⟨_, s2, s3⟩ := sd_facts hb.1 dual
    unfold fnL
    exact Nat.le_trans (List.length_filter_le _ _) (sdv_facts s3 s2).2.1
set_option maxHeartbeats 16000000 in
set_option maxRecDepth 1000000 in
theorem walk_FnClassProducts (v0 : Value) (xs : List Int) (v1 : Value) (ys : List Int) (w : World) (r0 : RdB w w.heap.size v0 xs) (r1 : RdB w w.heap.size v1 ys) :
    Calls Tryz.prog 3 #[v0, v1] w fun e w' => e = .returned (.bool true) ∧ Below w.heap.size w w' := by
  have HBG := Lib.hid (c_big v0 v1 w.heap.size xs ys w r0 r1)
  have HD := Lib.hid (d_drawProduct v0 xs w r0)
  have R1 := Lib.hid r1
  obtain ⟨a0, cap0, rfl, _⟩ := r0
  obtain ⟨a1, cap1, rfl, _⟩ := r1
  go_enter Tryz.func3, Tryz.ntmps3
  go_wp2_with fail
  refine HBG.out.mono ?_
  rintro e wy ⟨bg, rfl, rfl⟩
  rename World => w
  cases bg
  case true =>
    go_wp2
    go_ret
    exact ⟨rfl, Below.refl _ _⟩
  go_wp2_with fail
  refine HD.out.mono ?_
  rintro e w1 ⟨d, e', rfl, ⟨hd, he⟩, bb1⟩
  clear HD HBG
  have P1 := Lib.hid (fun W => c_iProductClass d e' hd he W)
  have P2 := Lib.hid (fun W => c_sProductClass d e' hd he W)
  have HL := Lib.hid (fun h => pp_law hd he h)
  have P3 := Lib.hid (fun c (hc : ClsV c) W => c_iProductClass c e' hc he W)
  have P4 := Lib.hid (fun W => c_iProductClass e' d he hd W)
  unfold PcP at P1 P2 P3 P4
  obtain ⟨ok, hok⟩ : ∃ b, ppB d e' = b := ⟨_, rfl⟩
  obtain ⟨p, hp⟩ : ∃ b, ppV d e' = b := ⟨_, rfl⟩
  rw [hok, hp] at P1 P2 HL
  clear hd he hok hp
  go_wp2_with fail
  refine (P1.out _).mono ?_
  rintro e w2 ⟨rfl, hb2⟩
  have bb2 := below_step hb2 bb1.size bb1
  clear P1 hb2 bb1
  go_wp2_with fail
  refine (P2.out _).mono ?_
  rintro e w3 ⟨rfl, hb3⟩
  have bb3 := below_step hb3 bb2.size bb2
  clear P2 hb3 bb2
  go_upto_if 76 with (fail)
  go_cut [] from 299 (fun wd => Below w.heap.size w wd)
  case first =>
    cases ok
    · go_wp2
      go_meet
      case rel => exact bb3
    · obtain ⟨x, x1, x2, rfl, hL1, hL2, hL3, hL4⟩ := HL.out (by trivial)
      have Q3 := P3.out (cdV x) (.inl ⟨x, x1, rfl⟩)
      rw [hL1, hL2] at Q3
      have Q4 := P4.out
      rw [hL3, hL4] at Q4
      have Q5 := c_iSquarefreePart x x1 x2
      have K3 := Lib.hid Q3
      have K4 := Lib.hid Q4
      have K5 := Lib.hid Q5
      clear hL1 hL2 hL3 hL4 Q3 Q4 Q5 P3 P4 HL x1 x2
      generalize cdV x = p at *
      go_wp2_with fail
      refine (K3.out _).mono ?_
      rintro e w4 ⟨rfl, hb4⟩
      have bb4 := below_step hb4 bb3.size bb3
      clear hb4 bb3
      go_wp2_with fail
      refine (K4.out _).mono ?_
      rintro e w5 ⟨rfl, hb5⟩
      have bb5 := below_step hb5 bb4.size bb4
      clear hb5 bb4
      go_wp2_with fail
      refine (K5.out _).mono ?_
      rintro e w6 ⟨rfl, hb6⟩
      have bb6 := below_step hb6 bb5.size bb5
      clear hb6 bb5
      go_wp2
      go_meet
      case rel => exact bb6
  case rest =>
    rename World => wd
    have bbd := hcut
    clear hcut bb3 P3 P4 HL
    have HD := Lib.hid (d_drawClassGroup _ ys wd ((R1.out.below bbd (Nat.le_refl _)).mono bbd.size))
    have HDR := Lib.hid (fun W (hW : Below w.heap.size w W) => d_drawRank _ ys W ((R1.out.below hW (Nat.le_refl _)).mono hW.size))
    have HDF := Lib.hid (fun W (hW : Below w.heap.size w W) => d_drawFound _ ys W ((R1.out.below hW (Nat.le_refl _)).mono hW.size))
    clear R1
    go_wp2_with fail
    refine HD.out.mono ?_
    rintro e w1 ⟨u, L, rfl, hO, hcl, hl, hb1⟩
    have bb1 := below_step hb1 bbd.size bbd
    clear HD hb1 bbd
    have hR := hO.rd
    have G1 := Lib.hid (fun W (hW : Below w1.heap.size w1 W) => c_iClassGroup L u (by omega) hcl W (hR.below hW))
    have G2 := Lib.hid (fun W (hW : Below w1.heap.size w1 W) => c_sClassGroup L u (by omega) hcl W (hR.below hW))
    have G3 := Lib.hid (fun h => grp_law hcl h)
    obtain ⟨hc2, hl2⟩ := cg_bd hcl
    have RI := Lib.hid (fun v W (hr : RdI W v (cgL L)) => c_iRankOfClasses (cgL L) v (by omega) hc2 W hr)
    have RS := Lib.hid (fun v W (hr : RdI W v (cgL L)) => c_sRankOfClasses (cgL L) v (by omega) hc2 W hr)
    have HS := Lib.hid (fun v v' W (h1 : RdI W v (cgL L)) (h2 : RdI W v' (cgL L)) => c_sameInts v v' (cgL L) (by omega) W h1 h2)
    have HI := Lib.hid (fun n v W (hr : RdI W v (cgL L)) => c_pIn (cgL L) n v (by omega) W hr)
    unfold IntsPost at G1 G2
    have HRL := Lib.hid (fun W (hW : Below w1.heap.size w1 W) => hR.below hW)
    obtain ⟨au, cu, rfl, _⟩ := id hO.form
    generalize cgL L = S at *
    obtain ⟨one, hone⟩ : ∃ b, cgO L = b := ⟨_, rfl⟩
    rw [hone] at G1 G2 G3
    clear hone hR hO hcl hc2
    have bz1 : Below w1.heap.size w1 w1 := Below.refl _ _
    go_wp2_with fail
    refine (G1.out _ bz1).mono ?_
    rintro e w2 ⟨v2, rfl, hO2, hb2⟩
    have bz2 := below_step hb2 bz1.size bz1
    clear hb2 bz1 G1
    go_wp2_with fail
    refine (G2.out _ bz2).mono ?_
    rintro e w3 ⟨v3, rfl, hO3, hb3⟩
    have bz3 := below_step hb3 bz2.size bz2
    have R2 := hO2.rd.below hb3
    have R3 := hO3.rd
    clear hb3 bz2 G2 hO2 hO3
    go_wp2_with fail
    refine (HS.out _ _ _ R2 R3).mono ?_
    rintro e w4 ⟨rfl, hb4⟩
    have bz4 := below_step hb4 bz3.size bz3
    replace R2 := R2.below hb4
    replace R3 := R3.below hb4
    clear hb4 bz3 HS
    obtain ⟨a2, c2, rfl, _⟩ := id R2
    obtain ⟨a3, c3, rfl, _⟩ := id R3
    go_upto_if 140 with (fail)
    go_cut [] from 299 (fun wx => Below w1.heap.size w1 wx)
    case first =>
      cases one
      · clear R2 R3 RI RS HI G3 HDR HDF HRL hl2 hl bb1
        go_wp2
        go_meet
        case rel => exact bz4
      · obtain ⟨i, g1, g2, g3, g4, g5, g6, g7⟩ := G3.out (by trivial)
        have QI := RI.out
        have QS := RS.out
        rw [g1, g2] at QI QS
        have K1 := Lib.hid QI
        have K2 := Lib.hid QS
        have H3 := Lib.hid g3
        have H7 := Lib.hid g7
        have H6 := Lib.hid g6
        clear QI QS RI RS g1 g2 g3 g6 g7
        go_wp2_with fail
        refine (K1.out _ _ R2).mono ?_
        rintro e w5 ⟨rfl, hb5⟩
        have bz5 := below_step hb5 bz4.size bz4
        replace R3 := R3.below hb5
        clear hb5 bz4 R2 K1
        go_wp2_with fail
        refine (K2.out _ _ R3).mono ?_
        rintro e w6 ⟨rfl, hb6⟩
        have bz6 := below_step hb6 bz5.size bz5
        replace R3 := R3.below hb6
        clear hb6 bz5 K2
        have hcv : (i : Int) % 18446744073709551616 = (i : Int) := by omega
        have hsh : wrap64 (2 ^ i) = (S.length : Int) := by
          rw [H3.out]
          exact wrap_pow g5
        have g4' : ¬ (i : Int) > (L.length : Int) := by omega
        have g4n : ¬ L.length < i := by omega
        have hi1 := HI.out 1
        rw [H6.out] at hi1
        have K6 := Lib.hid hi1
        clear hi1 H6 H3 G3
        go_wp2_with fail
        refine (K6.out _ _ R3).mono ?_
        rintro e wq ⟨rfl, rfl⟩
        clear K6
        rename World => w6
        have bw6 : Below w6.heap.size w6 w6 := Below.refl _ _
        go_wp2
        clear hsh hcv g4' g4n g4 g5
        go_loopw [183] (fun i wr => ∃ k : Nat, k ≤ L.length ∧ i = .int .i64 k ∧ w6 = wr) (fun i _ => L.length - (intOf i).toNat)
        case atStart => exact ⟨0, Nat.zero_le _, rfl, rfl⟩
        case round =>
          obtain ⟨k, hk, rfl, rfl⟩ := hrel
          by_cases hlt : k < L.length
          · obtain ⟨a4, c4, f3, hq⟩ := HRL.out _ bz6
            obtain ⟨g5, o5, rfl, q5, _⟩ := hq k hlt
            injection f3 with f4 f5 f6
            subst f4
            clear hq f5 f6
            have hi1 := HI.out (L[k]?.getD 0)
            rw [H7.out _ (getD_mem L hlt)] at hi1
            have K6 := Lib.hid hi1
            clear hi1
            have i0 : (k : Int) < (L.length : Int) := by omega
            generalize L[k]?.getD 0 = y at *
            go_wp2_with fail
            refine (K6.out _ _ R3).mono ?_
            rintro e wq ⟨rfl, rfl⟩
            go_wp2
            go_roundw
            case rel => exact ⟨k + 1, by omega, by go_num, trivial⟩
            case measure => simp [intOf]; omega
          · go_wp2
            go_meet
            case rel => exact bz6
    case rest =>
      rename World => wx
      have bbx := below_step hcut bb1.size bb1
      clear hcut bz4 R2 R3 RI RS HI G3 HRL hl2 hl bb1
      have HM := Lib.hid (HDR.out wx bbx)
      clear HDR
      go_wp2_with fail
      refine HM.out.mono ?_
      rintro e w1 ⟨u, M, rfl, hR, hcl, hl, hb1⟩
      have bb1 := below_step hb1 bbx.size bbx
      have hR2 := fun W (hW : Below w1.heap.size w1 W) => hR.below hW
      have K1 := Lib.hid (fun W (hW : Below w1.heap.size w1 W) => c_iRankOfClasses M u (by omega) hcl W (hR.below hW))
      have K2 := Lib.hid (fun W (hW : Below w1.heap.size w1 W) => c_sRankOfClasses M u (by omega) hcl W (hR.below hW))
      have HG := Lib.hid (fun h => rk_law hcl h)
      obtain ⟨au2, cu2, rfl, _⟩ := id hR
      obtain ⟨r, hr⟩ : ∃ b, rkV M = b := ⟨_, rfl⟩
      obtain ⟨three, hth⟩ : ∃ b, gpB M = b := ⟨_, rfl⟩
      rw [hr, hth] at K1 K2 HG
      clear hr hth hR hR2 hcl hb1 bbx HM
      have bz1 : Below w1.heap.size w1 w1 := Below.refl _ _
      go_wp2_with fail
      refine (K1.out _ bz1).mono ?_
      rintro e w2 ⟨rfl, hb2⟩
      have bz2 := below_step hb2 bz1.size bz1
      clear hb2 bz1 K1
      go_wp2_with fail
      refine (K2.out _ bz2).mono ?_
      rintro e w3 ⟨rfl, hb3⟩
      have bz3 := below_step hb3 bz2.size bz2
      clear hb3 bz2 K2
      have bb3 := below_step bz3 bb1.size bb1
      clear bz3 bb1
      go_upto_region 33 with (fail)
      go_cut [222] from 299 (fun s wy => s = .bool false ∧ Below w.heap.size w wy)
      case first =>
        cases three
        · go_wp2
          go_meet
          case rel => exact ⟨rfl, bb3⟩
        · obtain ⟨i, rfl, g3, g5⟩ := HG.out (by trivial)
          have H3 := Lib.hid g3
          clear g3 HG
          have hcv : (i : Int) % 18446744073709551616 = (i : Int) := by omega
          have hsh : wrap64 (2 ^ i) = (M.length : Int) := by
            rw [H3.out]
            exact wrap_pow g5
          go_wp2
          go_meet
          case rel => exact ⟨rfl, bb3⟩
      case rest =>
        rename World => wy
        obtain ⟨rfl, bby⟩ := hcut
        have HF := Lib.hid (HDF.out wy bby)
        clear bb3 HG HDF hl
        go_wp2_with fail
        refine HF.out.mono ?_
        rintro e w1 ⟨A, B, n, dual, rfl, _, hb1⟩
        have bb1 := below_step hb1 bby.size bby
        clear hb1 bby HF
        have FdI := Lib.hid (fun W => c_iFoundDivisors A B n dual W)
        have FdS := Lib.hid (fun W => c_sFoundDivisors A B n dual W)
        have hfl := fd_len A B n dual
        have HM := Lib.hid (fun x (hx : x ∈ fdL A B dual n) => fd_mem hx)
        have QI := Lib.hid (fun x (h1 : tgB A B = true) (h2 : x ∈ sdv (sdB A B dual)) W => c_iDescentQuartic A B x dual h1 h2 W)
        have QS := Lib.hid (fun x (h1 : tgB A B = true) (h2 : x ∈ sdv (sdB A B dual)) W => c_sDescentQuartic A B x dual h1 h2 W)
        have QP := Lib.hid (fun x (h1 : tgB A B = true) (h2 : x ∈ sdv (sdB A B dual)) (h3 : (sdB A B dual).tdiv x ≠ 0) (hn : inB n 1 60 = true) W => c_quarticPoints x (sdA A dual) ((sdB A B dual).tdiv x) n hn (sd_div h1 dual h2).2.1 (sd_div h1 dual h2).2.2.1 (sd_div h1 dual h2).2.2.2 (sd_div h1 dual h2).1 h3 W)
        unfold IntsPost at FdI FdS
        unfold DqP quV at QI QS
        unfold QpP at QP
        generalize fdL A B dual n = S at *
        obtain ⟨five, hfv⟩ : ∃ b, fdB A B n = b := ⟨_, rfl⟩
        rw [hfv] at FdI FdS
        clear hfv
        have kT := Blk.new w1 #[.int .i64 A, .int .i64 B] 38
        have bb2 : Below w.heap.size w (w1.alloc (.cells #[.int .i64 A, .int .i64 B] 38)) := bb1.alloc bb1.size _
        have hT := bb1.size
        go_upto_region 36 with (fail)
        generalize w1.alloc _ = w2 at *
        generalize w1.heap.size = T at *
        have kT0 : (w2).cell? ⟨T, 0, none⟩ = some (.int .i64 A) := kT.cell 0; have kT1 : (w2).cell? ⟨T, 1, none⟩ = some (.int .i64 B) := kT.cell 1; have kTl : T < (w2).heap.size := kT.lt
        clear bb1
        go_wp2_with fail
        refine (FdI.out _).mono ?_
        rintro e w3 ⟨v3, rfl, hO3, hb3⟩
        have bb3 := below_step hb3 bb2.size bb2
        have kU := kT.next hb3
        have R3 := hO3.rd
        have c30 := (hb3.cell (p := ⟨T, 0, none⟩) kTl).trans kT0
        have c31 := (hb3.cell (p := ⟨T, 1, none⟩) kTl).trans kT1
        clear hb3 bb2 FdI kT0 kT1 kTl kT hO3
        go_wp2_with fail
        refine (FdS.out _).mono ?_
        rintro e w4 ⟨v4, rfl, hO4, hb4⟩
        have bb4 := below_step hb4 bb3.size bb3
        have kV := kU.next hb4
        have R4 := hO4.rd
        replace R3 := R3.below hb4
        clear hb4 bb3 FdS kU hO4 c30 c31
        go_wp2_with fail
        refine (c_sameInts _ _ S (by omega) _ R3 R4).mono ?_
        rintro e w5 ⟨rfl, hb5⟩
        have bb5 := below_step hb5 bb4.size bb4
        have kW := kV.next hb5
        replace R4 := R4.below hb5
        clear hb5 bb4 R3 kV
        have HR := Lib.hid (fun W (hW : Below w5.heap.size w5 W) => R4.below hW)
        obtain ⟨a4, c4, rfl, _⟩ := id R4
        have hTs := kW.lt
        clear R4
        go_wp2
        go_loopw [254] (fun i wr => ∃ k : Nat, k ≤ S.length ∧ i = .int .i64 k ∧ Below w5.heap.size w5 wr) (fun i _ => S.length - (intOf i).toNat)
        case atStart => exact ⟨0, Nat.zero_le _, rfl, Below.refl _ _⟩
        case round =>
          obtain ⟨k, hk, rfl, hb⟩ := hrel
          by_cases hlt : k < S.length
          · obtain ⟨a6, c6, f3, hq⟩ := HR.out _ hb
            obtain ⟨g5, o5, rfl, q5, _⟩ := hq k hlt
            injection f3 with f4 f5 f6
            subst f4
            clear hq f5 f6
            obtain ⟨m1, m2, m3, m4, m5⟩ := HM.out _ (getD_mem S hlt)
            have J1 := Lib.hid (QI.out _ m1 m3)
            have J2 := Lib.hid (QS.out _ m1 m3)
            have hj3 := QP.out _ m1 m3 m5 m2
            rw [m4] at hj3
            have J3 := Lib.hid hj3
            clear m1 m2 m3 m4 m5 hj3
            have i0 : (k : Int) < (S.length : Int) := by omega
            generalize S[k]?.getD 0 = x at *
            generalize sdA A dual = y at *
            generalize (sdB A B dual).tdiv x = z at *
            have t0 := (hb.cell (p := ⟨T, 0, none⟩) hTs).trans (kW.cell 0)
            have t1 := (hb.cell (p := ⟨T, 1, none⟩) hTs).trans (kW.cell 1)
            simp only [List.getElem?_toArray, List.getElem?_cons_zero, List.getElem?_cons_succ] at t0 t1
            have hTw := Nat.lt_of_lt_of_le hTs hb.size
            go_wp2_with fail
            refine (J1.out _).mono ?_
            rintro e w6 ⟨rfl, hb6⟩
            have b6 := below_step hb6 hb.size hb
            have s0 := (hb6.cell (p := ⟨T, 0, none⟩) hTw).trans t0
            have s1 := (hb6.cell (p := ⟨T, 1, none⟩) hTw).trans t1
            have hTw6 := Nat.lt_of_lt_of_le hTw hb6.size
            have kE := Blk.new w6 #[.int .i64 x, .int .i64 y, .int .i64 z] 43
            have b7 : Below w5.heap.size w5 (w6.alloc (.cells #[.int .i64 x, .int .i64 y, .int .i64 z] 43)) := b6.alloc b6.size _
            have u0 : (w6.alloc (.cells #[.int .i64 x, .int .i64 y, .int .i64 z] 43)).cell? ⟨T, 0, none⟩ = some (.int .i64 A) := (((Below.refl w6.heap.size w6).alloc (Nat.le_refl _) _).cell (p := ⟨T, 0, none⟩) hTw6).trans s0
            have u1 : (w6.alloc (.cells #[.int .i64 x, .int .i64 y, .int .i64 z] 43)).cell? ⟨T, 1, none⟩ = some (.int .i64 B) := (((Below.refl w6.heap.size w6).alloc (Nat.le_refl _) _).cell (p := ⟨T, 1, none⟩) hTw6).trans s1
            clear hb6 b6 t0 t1 s0 s1 J1
            go_upto_region 44 with (fail)
            generalize w6.alloc _ = w7 at *
            generalize w6.heap.size = E at *
            have hz7 := b7.size
            have hEs := kE.lt
            go_wp2_with fail
            refine (J2.out _).mono ?_
            rintro e w8 ⟨rfl, hb8⟩
            have b8 := below_step hb8 hz7 b7
            have kE8 := kE.next hb8
            have kF := Blk.new w8 #[.int .i64 x, .int .i64 y, .int .i64 z] 43
            have b9 : Below w5.heap.size w5 (w8.alloc (.cells #[.int .i64 x, .int .i64 y, .int .i64 z] 43)) := b8.alloc b8.size _
            have kE9 := kE8.alloc (.cells #[.int .i64 x, .int .i64 y, .int .i64 z] 43)
            clear hb8 b8 kE kE8 u0 u1 J2 b7 hz7 hEs
            go_upto_region 45 with (fail)
            generalize w8.alloc _ = w9 at *
            generalize w8.heap.size = F at *
            have hz9 := b9.size
            have p0 : w9.cell? ⟨E, 0, none⟩ = some (.int .i64 x) := kE9.cell 0
            have p1 : w9.cell? ⟨E, 1, none⟩ = some (.int .i64 y) := kE9.cell 1
            have p2 : w9.cell? ⟨E, 2, none⟩ = some (.int .i64 z) := kE9.cell 2
            go_wp2_with fail
            refine (J3.out _).mono ?_
            rintro e w10 ⟨aq, nq, cq, rfl, hn1, hn2, hb10⟩
            have b10 := below_step hb10 hz9 b9
            have kE10 := kE9.next hb10
            have kF10 := kF.next hb10
            simp only [decide_eq_true_eq] at hn2
            clear hb10 b9 kE9 kF p0 p1 p2 J3 hz9
            have p0 : w10.cell? ⟨E, 0, none⟩ = some (.int .i64 x) := kE10.cell 0
            have p1 : w10.cell? ⟨E, 1, none⟩ = some (.int .i64 y) := kE10.cell 1
            have p2 : w10.cell? ⟨E, 2, none⟩ = some (.int .i64 z) := kE10.cell 2
            have q0 : w10.cell? ⟨F, 0, none⟩ = some (.int .i64 x) := kF10.cell 0
            have q1 : w10.cell? ⟨F, 1, none⟩ = some (.int .i64 y) := kF10.cell 1
            have q2 : w10.cell? ⟨F, 2, none⟩ = some (.int .i64 z) := kF10.cell 2
            go_wp2
            go_roundw
            case rel => exact ⟨k + 1, by omega, by go_num, b10⟩
            case measure => simp [intOf]; omega
          · have hfin := below_step hb bb5.size bb5
            go_wp2
            go_ret
            exact ⟨rfl, hfin⟩
end Go.Proofs.YtbmcabphjfpkhaaGreat
