/- Walks: slices.Sort at numbers; the squarefree divisors of a number by the program (squarefreeDivisors); those of a side (descentDivisors, dsDivisors). -/
import Derived.Test.YtbmcabphjfpkhaaGreatPcW
import Derived.Test.YtbmcabphjfpkhaaGreatPcM
import Derived.Test.YtbmcabphjfpkhaaGreatPcClo
import Derived.Test.YtbmcabphjfpkhaaGreatShelf
namespace Go.Proofs.YtbmcabphjfpkhaaGreat
set_option linter.all false
open Go.RowKit Go.Sort

theorem pcX_put (F : List Int) (c : Array Value) (h : F.length ≤ c.size) : (putCells (Value.int .i64) 0 F.toArray c).toList.take F.length = F.map (Value.int .i64) := by
  apply List.ext_getElem?
  intro t
  by_cases ht : t < F.length
  · rw [List.getElem?_take_of_lt ht, Array.getElem?_toList]
    unfold putCells
    simp [ht, show t < c.size by omega]
  · rw [List.getElem?_eq_none, List.getElem?_eq_none]
    · simp; omega
    · simp; omega
theorem pcX_heap (w : World) (g n : Nat) (d : Array Int) (os : Array Obj) {cur : Array Value} {e : TypeId} {fr : Nat × Nat} (h : w.heap[g]? = some (.cells cur e fr)) :
    (grow (putRow (Value.int .i64) (Sort.ahead w n) g 0 d) os).heap[g]? = some (.cells (putCells (Value.int .i64) 0 d cur) e fr) := by
  have hg : g < w.heap.size := (Array.getElem?_eq_some_iff.1 h).1
  show ((w.heap.modify g (onCells (putCells (Value.int .i64) 0 d))) ++ os)[g]? = _
  rw [Array.getElem?_append_left (by simpa using hg), Array.getElem?_modify, if_pos rfl, h]
  rfl
theorem pcX_grown (w : World) (g n : Nat) (d : Array Int) (os : Array Obj) : w.grownBy (grow (putRow (Value.int .i64) (Sort.ahead w n) g 0 d) os) (some g) :=
  ⟨rfl, rfl, rfl, by show w.heap.size ≤ ((w.heap.modify g _) ++ os).size; simp, fun k hk hne => by
    show ((w.heap.modify g (onCells (putCells (Value.int .i64) 0 d))) ++ os)[k]? = _
    rw [Array.getElem?_append_left (by simpa using hk), Array.getElem?_modify, if_neg (fun e => hne (by rw [e]))]⟩
theorem c_sortI (base : Nat) (v : Value) (L : List Int) (hL : 1 ≤ L.length ∧ L.length ≤ 100000) (w : World) (hown : OwnsI w base v L) :
    Calls Tryz.prog 61 #[v] w fun e w' => e = .returned (.tuple #[]) ∧ OwnsI w' base v (srt L) ∧ w.grownBy w' v.ownBlock := by
  rcases hown.2 with ⟨_, h0⟩ | ⟨g, cap, cur, rfl, hg, hh, hnc, hcm, hcs, ht⟩
  · omega
  · have hH : Holds (Value.int .i64) w g 0 L.toArray := by
      intro j hj
      have hj' : j < L.length := by simpa using hj
      obtain ⟨a, cap', hv, hf⟩ := hown.form
      obtain ⟨g', e1, q1, _⟩ := hf j hj'
      simp only [Value.slice.injEq] at hv
      rw [← hv.1] at e1
      obtain rfl : g = g' := by simpa using e1
      refine ⟨?_, by simp [World.frozen?, hh]⟩
      rw [Nat.zero_add, q1]
      simp [hj']
    have hcon := Tryz.slices_Sort_int g 0 cap L w hH (Array.getElem?_eq_some_iff.1 hh).1 (by omega)
    have hlen : (srt L).length = L.length := (srt_perm L).length_eq
    refine Calls.mono hcon fun e w' ⟨he, n, os, hw⟩ => ⟨he, ?_, ?_⟩
    · have hst : (L.mergeSort fun x y => decide (x ≤ y)) = srt L := rfl
      rw [hst] at hw
      subst hw
      refine ⟨by simp, .inr ⟨g, cap, _, by rw [hlen], hg, pcX_heap w g n _ os hh, by rw [hlen]; exact hnc, hcm, by simp [putCells]; omega, ?_⟩⟩
      have := pcX_put (srt L) cur (by rw [hlen, hcs]; omega)
      rw [Nat.mul_one]
      exact this
    · rw [hw]
      exact pcX_grown w g n _ os
set_option maxHeartbeats 2000000 in
theorem c_squarefreeDivisors (n : Int) (hn : n ≠ 0) (hb : -91200 ≤ n ∧ n ≤ 91200) (w : World) :
    Calls Tryz.prog 73 #[.int .i64 n] w fun e w' => ∃ v, e = .returned v ∧ OwnsI w' w.heap.size v (sdv n) ∧ Below w.heap.size w w' := by
  have HF := Lib.hid (fun (k : Nat) (S : List Int) (hk : k < (primesL n.natAbs).length) (hp : S.Perm (sdK n k)) => sdK_facts hn hb hk hp)
  have HE : Hid (sdK n (primesL n.natAbs).length = sdG [-1, 1] (primesL n.natAbs)) := Lib.hid (by unfold sdK; rw [List.take_length])
  have h7 := (primes_few (n := n.natAbs) (by omega) (by omega)).1
  have hO := OwnsI.two w (-1) 1
  have hb0 : Below w.heap.size w (w.alloc (.cells #[.int .i64 (-1), .int .i64 1] 3)) := (Below.refl _ _).alloc (Nat.le_refl _) _
  have hz0 := hb0.size
  have hs0 : (w.alloc (.cells #[.int .i64 (-1), .int .i64 1] 3)).heap.size = w.heap.size + 1 := by simp
  unfold sdv
  go_enter Tryz.func73, Tryz.ntmps73
  go_wp2_with fail
  refine (c_primesOf n (by omega) _).mono ?_
  rintro e w1 ⟨v, rfl, hown, hbl⟩
  have hO1 := hO.below hbl
  have hB1 := below_step hbl hz0 hb0
  have hA1 : Apt w1 v (primesL n.natAbs) (.slice (some ⟨w.heap.size, 0, none⟩) 2 2) := Apt.own (b := w.heap.size) hown (fun g hg => by simp [Value.ownBlock] at hg; omega)
  obtain ⟨a, cap, rfl, _⟩ := id hown.form
  clear hown hbl hO hb0 hz0 hs0
  generalize Value.slice (some ⟨w.heap.size, 0, none⟩) 2 2 = v0 at *
  generalize hPL : primesL n.natAbs = P at *
  go_wp2
  go_loopw [3, 12] (fun o i wr => ∃ (k : Nat), k ≤ P.length ∧ i = .int .i64 k ∧ OwnsI wr w.heap.size o (sdK n k) ∧ Apt wr (.slice a P.length cap) P o ∧ Below w.heap.size w wr) (fun _ i _ => P.length - (intOf i).toNat)
  case atStart => exact ⟨0, Nat.zero_le _, rfl, hO1, hA1, hB1⟩
  case round =>
    clear hO1 hA1 hB1
    obtain ⟨k, hk, rfl, hO, hA, hb1⟩ := hrel
    by_cases hlt : k < P.length
    · obtain ⟨a2, cap3, e3, hq⟩ := hA.1
      obtain ⟨g2, o2, rfl, q2, _⟩ := hq k hlt
      injection e3 with e4 e5 e6
      subst e4
      clear hq e5 e6
      obtain ⟨p, hp0, hp, hd, hSl, hnd, hnx⟩ := HF.out k _ hlt (.refl _)
      have hnext := sdK_next (n := n) (k := k) (by rw [hPL]; exact hlt)
      rw [hPL] at hnext
      rw [hp0] at hnext q2
      have HX := Lib.hid hnext
      have HD := Lib.hid hd
      have hz1 := hb1.size
      clear hd hnd hnx hp0 hnext
      have hne : sdK n k ≠ [] := fun h => by
        have h1 : (-1 : Int) ∈ sdK n k := by
          have hm : ∀ (ps out : List Int), (-1 : Int) ∈ out → (-1 : Int) ∈ sdG out ps := fun ps => by
            induction ps with
            | nil => intro out ho; exact ho
            | cons q ps ih => intro out ho; exact ih _ (by simp [ho])
          exact hm _ _ (by simp)
        rw [h] at h1; simp at h1
      have HNE := Lib.hid hne
      clear hne
      generalize hS : sdK n k = S at *
      clear hS
      go_wp2_with fail
      refine (c_cloneI _ S HNE.out (by omega) _ hO.rd).mono ?_
      rintro e w2 ⟨vc, rfl, hoc, hb2⟩
      have hO2 := hO.below hb2
      have hA2 := hA.below hb2
      have hC2 : Apt w2 vc S _ := Apt.own (b := w.heap.size) hoc (fun g hg => hO.lt g hg)
      have hb3 := below_step hb2 hz1 hb1
      obtain ⟨ac, capc, rfl, _⟩ := id hoc.form
      clear hoc hO hA hb2 hb1
      go_wp2
      go_loopw [3, 19] (fun o j wr => ∃ (i : Nat), i ≤ S.length ∧ j = .int .i64 i ∧ OwnsI wr w.heap.size o (S ++ (S.take i).map (· * p)) ∧ Apt wr (.slice (some ⟨g2, o2, none⟩) P.length cap) P o ∧ Apt wr (.slice ac S.length capc) S o ∧ Below w.heap.size w wr) (fun _ j _ => S.length - (intOf j).toNat)
      case atStart => exact ⟨0, Nat.zero_le _, rfl, by simpa using hO2, hA2, hC2, hb3⟩
      case round =>
        clear hO2 hA2 hC2 hb3
        obtain ⟨i, hi, rfl, hO, hA, hC, hb⟩ := hrel
        have hz := hb.size
        by_cases hl2 : i < S.length
        · obtain ⟨a4, cap4, f3, hq⟩ := hC.1
          obtain ⟨g5, o5, rfl, q5, _⟩ := hq i hl2
          injection f3 with f4 f5 f6
          subst f4
          clear hq f5 f6
          have hdm := HD.out _ (by rw [show S[i]?.getD 0 = S[i] by rw [List.getElem?_eq_getElem hl2]; rfl]; exact List.getElem_mem hl2 : S[i]?.getD 0 ∈ S)
          have hlenx : (S ++ (S.take i).map (· * p)).length < 1000000000000 := by
            rw [List.length_append, List.length_map, List.length_take]; omega
          have HN : Hid (S ++ (S.take (i + 1)).map (· * p) = (S ++ (S.take i).map (· * p)) ++ [S[i]?.getD 0 * p]) := Lib.hid (by rw [take_next hl2, List.map_append, ← List.append_assoc]; rfl)
          generalize S ++ (S.take i).map (· * p) = M at *
          generalize S[i]?.getD 0 = d at *
          have m1 := mulb (x := d) (y := p) 91200 91200 hdm (by omega)
          have i0 : (i : Int) < (S.length : Int) := by omega
          go_wp2_with (at_builtin; refine wpList_app_int2 (y := d * p) rfl _ _ rfl w.heap.size _ M rfl hO rfl hlenx hz ?_; intro v3 w3 hO3 hb3 hg3 hv3; have hA3 := hA.app hg3 hv3; have hC3 := hC.app hg3 hv3; have hB3 := hb.trans hb3)
          go_wp2
          go_roundw
          case rel => exact ⟨i + 1, by omega, by go_num, by rw [HN.out]; exact hO3, hA3, hC3, hB3⟩
          case measure => simp [intOf]; omega
        · obtain rfl : i = S.length := by omega
          rw [List.take_length, ← HX.out] at hO
          go_wp2
          go_roundw
          case rel => exact ⟨k + 1, by omega, by go_num, hO, hA, hb⟩
          case measure => simp [intOf]; omega
    · obtain rfl : k = P.length := by omega
      have hk2 := sdK_keep hn hb P.length
      have hpos : 1 ≤ (sdK n P.length).length := by
        unfold sdK
        rw [sd_len]
        have := Nat.two_pow_pos ((primesL ↑n.natAbs).take P.length).length
        have h6 : ([-1, 1] : List Int).length = 2 := rfl
        rw [h6]; omega
      have hz := hb1.size
      generalize sdK n P.length = G at *
      go_wp2_with fail
      refine (c_sortI w.heap.size _ G (by omega) _ hO).mono ?_
      rintro e w2 ⟨rfl, hO2, hg2⟩
      have hb2 : Below w.heap.size w w2 := hb1.grown hg2 hz (fun g hg => (hO.lt g hg).1)
      go_wp2
      go_ret
      exact ⟨_, rfl, by rw [hPL, ← HE.out]; exact hO2, hb2⟩
theorem c_descentDivisors (A B : Int) (dual : Bool) (h : tgB A B = true) (w : World) :
    Calls Tryz.prog 46 #[.agg #[.int .i64 A, .int .i64 B], .bool dual] w fun e w' => ∃ v, e = .returned v ∧ OwnsI w' w.heap.size v (sdv (sdB A B dual)) ∧ Below w.heap.size w w' := by
  have hs := sd_facts h dual
  have HS := Lib.hid (fun W => c_side A B dual h W)
  have HV := Lib.hid (fun W => c_squarefreeDivisors (sdB A B dual) hs.2.2 hs.2.1 W)
  generalize sdA A dual = a at *
  generalize sdB A B dual = b at *
  have kC := Blk.new w #[.int .i64 A, .int .i64 B] 38
  have hb0 : Below w.heap.size w (w.alloc (.cells #[.int .i64 A, .int .i64 B] 38)) := (Below.refl _ _).alloc (Nat.le_refl _) _
  have hz0 := hb0.size
  go_enter Tryz.func46, Tryz.ntmps46
  go_upto_region 1 with (fail)
  generalize w.alloc _ = W at *
  have kC0 : (W).cell? ⟨w.heap.size, 0, none⟩ = some (.int .i64 A) := kC.cell 0; have kC1 : (W).cell? ⟨w.heap.size, 1, none⟩ = some (.int .i64 B) := kC.cell 1; have kCl : w.heap.size < (W).heap.size := kC.lt
  go_wp2_with fail
  refine (HS.out _).mono ?_
  rintro e w1 ⟨rfl, hb1⟩
  have hb2 := below_step hb1 hz0 hb0
  have hz2 := hb2.size
  go_wp2_with fail
  refine (HV.out _).mono ?_
  rintro e w2 ⟨v, rfl, hO, hb3⟩
  go_wp2
  go_ret
  exact ⟨v, rfl, hO.le hz2, below_step hb3 hz2 hb2⟩
theorem c_dsDivisors (A B : Int) (dual : Bool) (h : tgB A B = true) (w : World) :
    Calls Tryz.prog 69 #[.agg #[.int .i64 A, .int .i64 B], .bool dual] w fun e w' => ∃ v, e = .returned v ∧ OwnsI w' w.heap.size v (sdv (sdB A B dual)) ∧ Below w.heap.size w w' := by
  have hs := sd_facts h dual
  have HS := Lib.hid (fun W => c_dsSide A B dual h W)
  have HV := Lib.hid (fun W => c_tcDivisors (sdB A B dual) hs.2.2 hs.2.1 W)
  generalize sdA A dual = a at *
  generalize sdB A B dual = b at *
  have kC := Blk.new w #[.int .i64 A, .int .i64 B] 38
  have hb0 : Below w.heap.size w (w.alloc (.cells #[.int .i64 A, .int .i64 B] 38)) := (Below.refl _ _).alloc (Nat.le_refl _) _
  have hz0 := hb0.size
  go_enter Tryz.func69, Tryz.ntmps69
  go_upto_region 1 with (fail)
  generalize w.alloc _ = W at *
  have kC0 : (W).cell? ⟨w.heap.size, 0, none⟩ = some (.int .i64 A) := kC.cell 0; have kC1 : (W).cell? ⟨w.heap.size, 1, none⟩ = some (.int .i64 B) := kC.cell 1; have kCl : w.heap.size < (W).heap.size := kC.lt
  go_wp2_with fail
  refine (HS.out _).mono ?_
  rintro e w1 ⟨rfl, hb1⟩
  have hb2 := below_step hb1 hz0 hb0
  have hz2 := hb2.size
  go_wp2_with fail
  refine (HV.out _).mono ?_
  rintro e w2 ⟨v, rfl, hO, hb3⟩
  go_wp2
  go_ret
  exact ⟨v, rfl, hO.le hz2, below_step hb3 hz2 hb2⟩
end Go.Proofs.YtbmcabphjfpkhaaGreat
