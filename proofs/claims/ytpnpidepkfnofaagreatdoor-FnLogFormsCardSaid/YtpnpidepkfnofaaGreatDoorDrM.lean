/- Walks: logs drawn (changes). -/
import Derived.Test.YtpnpidepkfnofaaGreatDoorDrL
import Derived.Test.YtpnpidepkfnofaaGreatDoorPairS
namespace Go.Proofs.YtpnpidepkfnofaaGreatDoor
open Go.RowKit

section
variable {B k n : Nat} {v : Value} {xs : List Int} {w0 w : World} {bl : List (Nat × Array Value × TypeId)}
/-- a log, drawn: its block is one of those that stay -/
def LogD (B k : Nat) (v : Value) (xs : List Int) (n : Nat) (w0 : World) (bl : List (Nat × Array Value × TypeId)) (base : Nat) (e : Ending) (w' : World) : Prop :=
  ∃ (u : Value) (L : List (Int × Int)) (rl : List (Nat × Array Value × TypeId)), e = .returned u ∧ L.length ≤ 60 ∧ LogR 44 base u L rl ∧ Dr B k v xs n w0 (rl ++ bl) w'
set_option maxHeartbeats 4000000 in
theorem d_changes (d : Dr B k v xs n w0 bl w) (hn : n ≤ 400000) (A0 B0 : Int) : Calls Tryz.prog 51 #[.pointer (some ⟨k, 0, none⟩), .agg #[.int .i64 A0, .int .i64 B0]] w (LogD B k v xs (n + 2000) w0 bl (w.heap.size + 1)) := by
  have d1 := d.alloc #[.int .i64 A0, .int .i64 B0] 33
  have hkb : k < w.heap.size + 1 := by have := d.cur.2.1; omega
  have h0b : w0.heap.size ≤ w.heap.size + 1 := by have := d.ovr.size; omega
  have hbb : ∀ b ∈ bl, b.1 < w.heap.size + 1 := fun b hb => by have := Blk.lt (d.mem b hb); omega
  have hEE : w.heap.size < w.heap.size + 1 := by omega
  have hEb : w.heap.size + 1 ≤ w.heap.size + 1 := Nat.le_refl _
  go_enter Tryz.func51, Tryz.ntmps51
  go_upto_region 1 with (fail)
  generalize w.alloc _ = W at d1 ⊢
  generalize hbe : w.heap.size + 1 = base at hkb h0b hbb hEE ⊢
  replace hEb : base ≤ w.heap.size + 1 := by omega
  have HB := Lib.hid hbe
  clear hbe
  generalize w.heap.size = E at d1 hEE hEb ⊢
  have hbE : ∀ (a b : Int), ∀ c ∈ (E, (#[.int .i64 a, .int .i64 b] : Array Value), 33) :: bl, c.1 < base := fun a b c hc => by
    rcases List.mem_cons.1 hc with rfl | hc
    · exact hEE
    · exact hbb c hc
  go_wp2_with fail
  refine (d_pick d1 (by omega) 6 (by omega)).mono ?_
  rintro e w2 ⟨N0, rfl, hN0, d2⟩
  simp only [show ¬ ((6 : Int) ≤ 1) by omega, if_false] at hN0
  go_wp2_with fail
  refine (d_one d2 (by omega) 12 (by omega)).mono ?_
  rintro e w3 ⟨q, rfl, d3⟩
  clear d1 d2
  go_upto_if 15 with (fail)
  go_cut [6] from 64 (fun s wc => ∃ N : Int, s = .int .i64 N ∧ (0 ≤ N ∧ N ≤ 21) ∧ Dr B k v xs (n + 6) w0 ((E, #[.int .i64 A0, .int .i64 B0], 33) :: bl) wc)
  case first =>
    cases q
    · go_wp2
      go_meet
      case rel => exact ⟨N0, rfl, by omega, d3.le (by omega)⟩
    · go_wp2_with fail
      refine (d_pick d3 (by omega) 2 (by omega)).mono ?_
      rintro e w4 ⟨x, rfl, hx, d4⟩
      simp only [show ¬ ((2 : Int) ≤ 1) by omega, if_false] at hx
      go_wp2
      go_meet
      case rel => exact ⟨20 + x, rfl, by omega, d4.le (by omega)⟩
  case rest =>
    obtain ⟨N, rfl, hN, d5⟩ := hcut
    clear d3 hN0
    go_wp2
    go_loopw [5, 7] (fun lg t wr => ∃ (L : List (Int × Int)) (a b : Int) (j : Nat), t = .int .i64 j ∧ j ≤ 60 ∧ L.length ≤ j ∧ OwnsS wr base lg L ∧ Dr B k v xs (n + 6 + 20 * j) w0 ((E, #[.int .i64 a, .int .i64 b], 33) :: bl) wr) (fun _ t _ => 60 - (intOf t).toNat)
    case atStart => exact ⟨[], A0, B0, 0, rfl, by omega, by simp, OwnsP.nil _ _ _, d5.le (by omega)⟩
    case round =>
      obtain ⟨L, a, b, j, rfl, hj, hLj, ho, dr⟩ := hrel
      obtain ⟨rl, hlog, dr2⟩ := dr.addOwn ho hkb (hbE a b) h0b
      replace dr2 := dr2.perm List.perm_middle
      obtain ⟨sa, cap, rfl, _⟩ := OwnsP.form ho
      clear dr ho
      by_cases hgo : (L.length : Int) < N ∧ (j : Int) < 60
      · obtain ⟨hgo1, hgo2⟩ := hgo
        go_wp2_with fail
        refine (d_changeStep dr2 (by omega)).mono ?_
        rintro e w6 ⟨kk, vv, rfl, _, d6⟩
        have d7 := d6.alloc #[.int .i64 kk, .int .i64 vv] 44
        clear dr2 d6
        go_upto_region 10 with (fail)
        generalize w6.alloc _ = W7 at d7 ⊢
        generalize w6.heap.size = S at d7 ⊢
        go_cut [38] from 64 (fun s wc => ∃ q : Bool, s = .bool q ∧ (q = true → 0 < L.length) ∧ Dr B k v xs (n + 18 + 20 * j) w0 ((S, #[.int .i64 kk, .int .i64 vv], 44) :: (E, #[.int .i64 a, .int .i64 b], 33) :: (rl ++ bl)) wc)
        case first =>
          by_cases hpos : 0 < (L.length : Int)
          · go_wp2_with fail
            refine (d_one d7 (by omega) 3 (by omega)).mono ?_
            rintro e w8 ⟨q, rfl, d8⟩
            go_wp2
            go_meet
            case rel => exact ⟨_, rfl, (fun _ => by omega), d8.le (by omega)⟩
          · go_wp2
            go_meet
            case rel => exact ⟨false, rfl, (fun h => by cases h), d7.le (by omega)⟩
        case rest =>
          obtain ⟨q, rfl, hq, d8⟩ := hcut
          clear d7
          go_upto_if 38 with (fail)
          go_cut [] from 64 (fun wd => ∃ kk vv : Int, Dr B k v xs (n + 18 + 20 * j) w0 ((S, #[.int .i64 kk, .int .i64 vv], 44) :: (E, #[.int .i64 a, .int .i64 b], 33) :: (rl ++ bl)) wd)
          case first =>
            cases q
            · go_wp2
              go_meet
              case rel => exact ⟨_, _, d8⟩
            · have hpos := hq rfl
              obtain ⟨m, hm⟩ : ∃ m, L.length = m + 1 := ⟨L.length - 1, by omega⟩
              obtain ⟨a', cap', hv, hf⟩ := OwnsP.form (d8.tail.tail.owns hlog)
              obtain ⟨g, rfl, c0, c1, _, hg, hbg⟩ := hf m (by omega)
              injection hv with hv _ hcap
              subst hv
              subst hcap
              have hk2 : ((L.length : Int)) - 1 = m := by omega
              have i0 : (0 : Int) ≤ (m : Int) := by omega
              have i1 : (m : Int) < (L.length : Int) := by omega
              generalize L[m] = c at c0 c1
              obtain ⟨x, y⟩ := c
              simp only at c0 c1
              obtain ⟨z0, z1, z2, z3⟩ := d8.two
              clear hf hm
              go_wp2_with fail
              refine (c_tlUndoAny x y _).mono ?_
              rintro e w9 ⟨rfl, hb9⟩
              have d9 := d8.below hb9
              clear z0 z1 z2 z3 c0 c1
              obtain ⟨z0, z1, z2, z3⟩ := d9.two
              have d10 := d9.s01 (.int .i64 (undK x)) (.int .i64 y)
              go_wp2
              go_meet
              case rel => exact ⟨_, _, d10⟩
          case rest =>
            obtain ⟨kk, vv, d9⟩ := hcut
            clear d8 hq
            have HA := Lib.hid (fun W => c_sApplyStep kk a b vv W)
            generalize rs (asOk kk a b vv) (apA kk a vv) = X at HA
            generalize rs (asOk kk a b vv) (apB kk b vv) = Y at HA
            generalize asOk kk a b vv = o at HA
            obtain ⟨z0, z1, z2, z3⟩ := d9.two
            obtain ⟨y0, y1, y2, y3⟩ := d9.swap.two
            go_wp2_with fail
            refine (HA.out _).mono ?_
            rintro e w10 ⟨rfl, hb10⟩
            have d10 := (d9.below hb10).alloc #[.int .i64 X, .int .i64 Y] 33
            clear z0 z1 z2 z3 y0 y1 y2 y3 HA d9
            go_upto_region 13 with (fail)
            generalize w10.alloc _ = W10 at d10 ⊢
            generalize w10.heap.size = R at d10 ⊢
            cases o
            · go_wp2_with fail
              refine (d_one d10 (by omega) 20 (by omega)).mono ?_
              rintro e w11 ⟨q2, rfl, d11⟩
              clear d10
              have d12 := d11.tail
              have ho9 := d12.tail.tail.owns hlog
              have hs9 : base ≤ w11.heap.size := by have := d12.tail.head.lt; omega
              cases q2
              · go_wp2
                go_roundw
                case rel => exact ⟨L, _, _, j + 1, by go_num, by omega, by omega, ho9, ((d12.tail.perm List.perm_middle.symm).right).le (by omega)⟩
                case measure => simp [intOf]; omega
              · obtain ⟨z0, z1, z2, z3⟩ := d12.two
                go_wp2_with (at_builtin; refine wpList_appS (p := (kk, vv)) rfl _ _ rfl base _ _ rfl ho9 rfl (by omega) hs9 ?_; intro v' w30 ho30 hb30 hg30)
                have d30 := (((d12.tail.perm List.perm_middle.symm).right)).grow hb30 hkb (hbE a b) h0b
                go_wp2
                go_roundw
                case rel => exact ⟨L ++ [(kk, vv)], _, _, j + 1, by go_num, by omega, by simp; omega, ho30, d30.le (by omega)⟩
                case measure => simp [intOf]; omega
            · obtain ⟨z0, z1, z2, z3⟩ := d10.two
              obtain ⟨y0, y1, y2, y3⟩ := d10.tail.swap.two
              have d11 := d10.tail.swap.s01 (.int .i64 X) (.int .i64 Y)
              go_upto_region 15 with (fail)
              generalize (W10.setCell _ _).setCell _ _ = W11 at d11 ⊢
              clear z0 z1 z2 z3 y0 y1 y2 y3 d10
              have ho9 := d11.tail.tail.owns hlog
              have hs9 : base ≤ W11.heap.size := by have := d11.head.lt; omega
              obtain ⟨z0, z1, z2, z3⟩ := d11.swap.two
              go_wp2_with (at_builtin; refine wpList_appS (p := (kk, vv)) rfl _ _ rfl base _ _ rfl ho9 rfl (by omega) hs9 ?_; intro v' w30 ho30 hb30 hg30)
              have d30 := (((d11.swap.tail.perm List.perm_middle.symm).right)).grow hb30 hkb (hbE X Y) h0b
              go_wp2
              go_roundw
              case rel => exact ⟨L ++ [(kk, vv)], _, _, j + 1, by go_num, by omega, by simp; omega, ho30, d30.le (by omega)⟩
              case measure => simp [intOf]; omega
      · by_cases h1 : (L.length : Int) < N
        · have h2 : ¬ (j : Int) < 60 := by omega
          go_wp2
          refine bodyPost_ret (v := .slice sa L.length cap) (by simp [results, Tryz.results51, go_sem]) rfl ?_
          exact ⟨_, L, rl, rfl, by omega, by rw [HB.out]; exact hlog, dr2.tail.le (by omega)⟩
        · go_wp2
          refine bodyPost_ret (v := .slice sa L.length cap) (by simp [results, Tryz.results51, go_sem]) rfl ?_
          exact ⟨_, L, rl, rfl, by omega, by rw [HB.out]; exact hlog, dr2.tail.le (by omega)⟩
end
end Go.Proofs.YtpnpidepkfnofaaGreatDoor
