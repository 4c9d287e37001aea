/- Walks: the reference's sum of two points (ptAdd), its multiples (ptTimes). -/
import Derived.Test.YtcnfjapoopdiaaaSad
import Derived.Test.YtcnfjapoopdiaaaChain
import Derived.Deep.Cut
namespace Go.Proofs.Ytcnfjapoopdiaaa
open Go.RowKit

theorem tdiv_pos {d G : Int} (hG : 0 < G) (h : G ∣ d) (hd : 0 < d) : 1 ≤ d.tdiv G := by
  obtain ⟨k, rfl⟩ := h
  rw [Int.mul_tdiv_cancel_left _ (by omega)]
  rcases Int.lt_or_le 0 k with h | h
  · omega
  · have := Int.mul_nonneg (show 0 ≤ G by omega) (show 0 ≤ -k by omega)
    rw [Int.mul_neg] at this; omega
theorem mkD_pos {n d : Int} (hd : d ≠ 0) : 1 ≤ mkD n d := by
  have hg : 0 < Int.gcd n d := Int.gcd_pos_iff.2 (.inr hd)
  have h2 : ((Int.gcd n d : Nat) : Int) ∣ d := Int.gcd_dvd_right n d
  unfold mkD mkG gcdI
  split
  · rw [Int.tdiv_neg, ← Int.neg_tdiv]
    exact tdiv_pos (by omega) (Int.dvd_neg.2 h2) (by omega)
  · exact tdiv_pos (by omega) h2 (by omega)
theorem mk_bd (n d : Int) : (mkN n d).natAbs ≤ n.natAbs ∧ (mkD n d).natAbs ≤ d.natAbs := ⟨tdiv_abs _ _, tdiv_abs _ _⟩
/-- x of the sum as a quotient -/
def spT (n d X1 E1 X2 E2 : Int) : Int := n * n * (E1 * E1) * (E2 * E2) - X1 * d * d * (E2 * E2) - X2 * d * d * (E1 * E1)
def spB (d E1 E2 : Int) : Int := d * d * (E1 * E1) * (E2 * E2)
/-- y of the sum as a quotient, in two steps -/
def spU (n X1 E1 x e : Int) : Int := n * (X1 * e * e - x * (E1 * E1))
def spV (d E1 e : Int) : Int := d * (E1 * E1) * e * e
def spG (u v Y1 E1 : Int) : Int := u * (E1 * E1) * E1 - Y1 * v
def spH (v E1 : Int) : Int := v * (E1 * E1) * E1
def spY (y bo e : Int) : Int := wrap64 (y * (e * e * e).tdiv bo)
def spW (n d X1 Y1 E1 x e : Int) : Int := spY (mkN (spG (mkN (spU n X1 E1 x e) (spV d E1 e)) (mkD (spU n X1 E1 x e) (spV d E1 e)) Y1 E1) (spH (mkD (spU n X1 E1 x e) (spV d E1 e)) E1)) (mkD (spG (mkN (spU n X1 E1 x e) (spV d E1 e)) (mkD (spU n X1 E1 x e) (spV d E1 e)) Y1 E1) (spH (mkD (spU n X1 E1 x e) (spV d E1 e)) E1)) e
noncomputable def spA (n d X1 Y1 E1 X2 E2 : Int) : Option (Int × Int × Int) :=
  if 8000 < d ∨ 200 * d < n.natAbs then none
  else if rtI (mkD (spT n d X1 E1 X2 E2) (spB d E1 E2)) * rtI (mkD (spT n d X1 E1 X2 E2) (spB d E1 E2)) = mkD (spT n d X1 E1 X2 E2) (spB d E1 E2) ∧ rtI (mkD (spT n d X1 E1 X2 E2) (spB d E1 E2)) ≤ 20 ∧ inB (mkN (spT n d X1 E1 X2 E2) (spB d E1 E2)) (-10000) 10000 = true then
    some (mkN (spT n d X1 E1 X2 E2) (spB d E1 E2), spW n d X1 Y1 E1 (mkN (spT n d X1 E1 X2 E2) (spB d E1 E2)) (rtI (mkD (spT n d X1 E1 X2 E2) (spB d E1 E2))), rtI (mkD (spT n d X1 E1 X2 E2) (spB d E1 E2)))
  else none
noncomputable def spS (A X1 Y1 E1 X2 Y2 E2 : Int) : Option (Int × Int × Int) :=
  if slD X1 Y1 E1 X2 Y2 E2 = 0 then some (0, 0, 0) else spA (mkN (slN A X1 Y1 E1 X2 Y2 E2) (slD X1 Y1 E1 X2 Y2 E2)) (mkD (slN A X1 Y1 E1 X2 Y2 E2) (slD X1 Y1 E1 X2 Y2 E2)) X1 Y1 E1 X2 E2
def spR : Option (Int × Int × Int) → Value
  | some (x, y, e) => .tuple #[.agg #[.int .i64 x, .int .i64 y, .int .i64 e], .bool true]
  | none => .tuple #[.agg #[.int .i64 0, .int .i64 0, .int .i64 0], .bool false]
set_option maxHeartbeats 4000000 in
set_option maxRecDepth 100000 in
theorem c_sAddFin (A B X1 Y1 E1 X2 Y2 E2 : Int) (hA : -1000 ≤ A ∧ A ≤ 1000) (hp : PtIn X1 Y1 E1) (hq : PtIn X2 Y2 E2) (h1 : 1 ≤ E1) (h2 : 1 ≤ E2) (w : World) :
    Calls Try.prog 91 #[.agg #[.int .i64 A, .int .i64 B], .agg #[.int .i64 X1, .int .i64 Y1, .int .i64 E1], .agg #[.int .i64 X2, .int .i64 Y2, .int .i64 E2]] w fun e w' =>
      e = .returned (spR (spS A X1 Y1 E1 X2 Y2 E2)) ∧ Below w.heap.size w w' := by
  have HSl := Lib.hid (fun W => c_ptSlope A B X1 Y1 E1 X2 Y2 E2 hA hp hq W)
  have kC := (((Blk.new w #[.int .i64 A, .int .i64 B] 49).alloc (.cells #[.int .i64 X1, .int .i64 Y1, .int .i64 E1] 30)).alloc (.cells #[.int .i64 X2, .int .i64 Y2, .int .i64 E2] 30)).alloc (.cells #[.int .i64 0, .int .i64 0, .int .i64 0] 30)
  have kP := ((Blk.new (w.alloc (.cells #[.int .i64 A, .int .i64 B] 49)) #[.int .i64 X1, .int .i64 Y1, .int .i64 E1] 30).alloc (.cells #[.int .i64 X2, .int .i64 Y2, .int .i64 E2] 30)).alloc (.cells #[.int .i64 0, .int .i64 0, .int .i64 0] 30)
  have kQ := (Blk.new ((w.alloc (.cells #[.int .i64 A, .int .i64 B] 49)).alloc (.cells #[.int .i64 X1, .int .i64 Y1, .int .i64 E1] 30)) #[.int .i64 X2, .int .i64 Y2, .int .i64 E2] 30).alloc (.cells #[.int .i64 0, .int .i64 0, .int .i64 0] 30)
  have kR := Blk.new (((w.alloc (.cells #[.int .i64 A, .int .i64 B] 49)).alloc (.cells #[.int .i64 X1, .int .i64 Y1, .int .i64 E1] 30)).alloc (.cells #[.int .i64 X2, .int .i64 Y2, .int .i64 E2] 30)) #[.int .i64 0, .int .i64 0, .int .i64 0] 30
  have bb : Below w.heap.size w ((((w.alloc (.cells #[.int .i64 A, .int .i64 B] 49)).alloc (.cells #[.int .i64 X1, .int .i64 Y1, .int .i64 E1] 30)).alloc (.cells #[.int .i64 X2, .int .i64 Y2, .int .i64 E2] 30)).alloc (.cells #[.int .i64 0, .int .i64 0, .int .i64 0] 30)) := ((((Below.refl _ _).alloc (Nat.le_refl _) _).alloc (by simp) _).alloc (by simp; omega) _).alloc (by simp; omega) _
  simp only [World.size_alloc] at kP kQ kR
  have hsz := bb.size
  obtain ⟨hX1, hY1, hE1⟩ := hp
  obtain ⟨hX2, hY2, hE2⟩ := hq
  have g1 : (E1 == 0) = false := by simp; omega
  have g2 : (E2 == 0) = false := by simp; omega
  have hsb := slN_bd (X1 := X1) (Y1 := Y1) (E1 := E1) (X2 := X2) (Y2 := Y2) (E2 := E2) hA ⟨hX1, hY1, hE1⟩ ⟨hX2, hY2, hE2⟩
  have HS : Hid (spS A X1 Y1 E1 X2 Y2 E2 = if slD X1 Y1 E1 X2 Y2 E2 = 0 then some (0, 0, 0) else spA (mkN (slN A X1 Y1 E1 X2 Y2 E2) (slD X1 Y1 E1 X2 Y2 E2)) (mkD (slN A X1 Y1 E1 X2 Y2 E2) (slD X1 Y1 E1 X2 Y2 E2)) X1 Y1 E1 X2 E2) := rfl
  generalize hRes : spR (spS A X1 Y1 E1 X2 Y2 E2) = Res
  have HR0 : Hid (spR (if slD X1 Y1 E1 X2 Y2 E2 = 0 then some (0, 0, 0) else spA (mkN (slN A X1 Y1 E1 X2 Y2 E2) (slD X1 Y1 E1 X2 Y2 E2)) (mkD (slN A X1 Y1 E1 X2 Y2 E2) (slD X1 Y1 E1 X2 Y2 E2)) X1 Y1 E1 X2 E2) = Res) := Lib.hid (by rw [← HS.out]; exact hRes)
  clear hRes HS
  generalize slN A X1 Y1 E1 X2 Y2 E2 = n0 at *
  generalize slD X1 Y1 E1 X2 Y2 E2 = m0 at *
  go_enter Try.func91, Try.ntmps91
  go_upto_region 1 with (fail)
  generalize (((w.alloc _).alloc _).alloc _).alloc _ = W at *
  have hRC : w.heap.size ≤ w.heap.size + 1 + 1 + 1 := by omega
  generalize w.heap.size + 1 + 1 + 1 = rR at *
  generalize w.heap.size + 1 + 1 = rQ at *
  generalize w.heap.size + 1 = rP at *
  generalize hrC0 : w.heap.size = rC at *
  have hrC : Hid (w.heap.size = rC) := hrC0
  clear hrC0
  have lR := kR.lt
  have lP := kP.lt
  have lQ := kQ.lt
  have lC := kC.lt
  have p0 : (W).cell? ⟨rP, 0, none⟩ = some (.int .i64 X1) := kP.cell 0
  have p1 : (W).cell? ⟨rP, 1, none⟩ = some (.int .i64 Y1) := kP.cell 1
  have p2 : (W).cell? ⟨rP, 2, none⟩ = some (.int .i64 E1) := kP.cell 2
  have q0 : (W).cell? ⟨rQ, 0, none⟩ = some (.int .i64 X2) := kQ.cell 0
  have q1 : (W).cell? ⟨rQ, 1, none⟩ = some (.int .i64 Y2) := kQ.cell 1
  have q2 : (W).cell? ⟨rQ, 2, none⟩ = some (.int .i64 E2) := kQ.cell 2
  have c0 : W.cell? ⟨rC, 0, none⟩ = some (.int .i64 A) := kC.cell 0
  have c1 : W.cell? ⟨rC, 1, none⟩ = some (.int .i64 B) := kC.cell 1
  have hz := hsz
  go_wp2_with fail
  refine (HSl.out _).mono ?_
  rintro e w1 ⟨rfl, hb1⟩
  clear HSl c0 c1 kC lC
  by_cases hm : m0 = 0
  · have hRes := HR0.out
    rw [if_pos hm] at hRes
    simp only [spR] at hRes
    subst hRes
    rw [show spN n0 m0 = 1 from if_pos hm, show spD n0 m0 = 0 from if_pos hm]
    clear p0 p1 p2 q0 q1 q2 kP kQ hsb hm HR0
    go_upto_region 7 with (fail)
    have l9 := kR.lt
    have jR := kR.next hb1
    have z0 := jR.frozen 0
    have z1 := jR.frozen 1
    have z2 := jR.frozen 2
    have t0 : (w1).cell? ⟨rR, 0, none⟩ = some (.int .i64 0) := jR.cell 0
    have t1 : (w1).cell? ⟨rR, 1, none⟩ = some (.int .i64 0) := jR.cell 1
    have t2 : (w1).cell? ⟨rR, 2, none⟩ = some (.int .i64 0) := jR.cell 2
    have k9 := ((jR.set 0 (.int .i64 (0))).set 1 (.int .i64 (0))).set 2 (.int .i64 (0))
    have hB9 : Below rC w ((((w1).setCell ⟨rR, 0, none⟩ (.int .i64 (0))).setCell ⟨rR, 1, none⟩ (.int .i64 (0))).setCell ⟨rR, 2, none⟩ (.int .i64 (0))) := (((below_step hb1 (by omega) bb).setCell (by simp; omega) _).setCell (by simp; omega) _).setCell (by simp; omega) _
    (repeat (first | go_skip | go_guarded | go_step))
    generalize (World.setCell (World.setCell (World.setCell _ _ _) _ _) _ _) = w9 at k9 hB9 ⊢
    clear t0 t1 t2 z0 z1 z2
    have q0 : w9.cell? ⟨rR, 0, none⟩ = some (.int .i64 (0)) := k9.cell 0
    have q1 : w9.cell? ⟨rR, 1, none⟩ = some (.int .i64 (0)) := k9.cell 1
    have q2 : w9.cell? ⟨rR, 2, none⟩ = some (.int .i64 (0)) := k9.cell 2
    refine bodyPost_ret (v := .tuple #[.agg #[.int .i64 (0), .int .i64 (0), .int .i64 (0)], .bool true]) (by simp [results, Try.results91, go_sem, q0, q1, q2]) rfl ?_
    exact ⟨rfl, hrC.out ▸ hB9⟩
  · rw [show spN n0 m0 = mkN n0 m0 from if_neg hm, show spD n0 m0 = mkD n0 m0 from if_neg hm]
    have hRes0 := HR0.out
    rw [if_neg hm] at hRes0
    have hdp := mkD_pos (n := n0) hm
    obtain ⟨hnb, hdb⟩ := mk_bd n0 m0
    have hnn : -48000000000 ≤ mkN n0 m0 ∧ mkN n0 m0 ≤ 48000000000 := by omega
    have hdd : 1 ≤ mkD n0 m0 ∧ mkD n0 m0 ≤ 3200000000 := by omega
    clear HR0 hsb hm hnb hdb hdp
    generalize mkN n0 m0 = n at *
    generalize mkD n0 m0 = d at *
    have HRes := Lib.hid hRes0
    clear hRes0
    replace bb := below_step hb1 (by omega) bb
    replace kP := kP.next hb1
    replace kQ := kQ.next hb1
    replace kR := kR.next hb1
    clear p0 p1 p2 q0 q1 q2 hb1
    replace hz := kR.lt
    have p0 : (w1).cell? ⟨rP, 0, none⟩ = some (.int .i64 X1) := kP.cell 0
    have p1 : (w1).cell? ⟨rP, 1, none⟩ = some (.int .i64 Y1) := kP.cell 1
    have p2 : (w1).cell? ⟨rP, 2, none⟩ = some (.int .i64 E1) := kP.cell 2
    have q0 : (w1).cell? ⟨rQ, 0, none⟩ = some (.int .i64 X2) := kQ.cell 0
    have q1 : (w1).cell? ⟨rQ, 1, none⟩ = some (.int .i64 Y2) := kQ.cell 1
    have q2 : (w1).cell? ⟨rQ, 2, none⟩ = some (.int .i64 E2) := kQ.cell 2
    have HAb := Lib.hid (fun W => c_l1Abs n (by omega) W)
    by_cases hd8 : 8000 < d
    · have hRes := HRes.out
      unfold spA at hRes
      rw [if_pos (.inl hd8)] at hRes
      simp only [spR] at hRes
      subst hRes
      have hb2 := Below.refl w1.heap.size w1
      go_upto_region 9 with (fail)
      have l9 := kR.lt
      have jR := kR.next hb2
      have z0 := jR.frozen 0
      have z1 := jR.frozen 1
      have z2 := jR.frozen 2
      have t0 : (w1).cell? ⟨rR, 0, none⟩ = some (.int .i64 0) := jR.cell 0
      have t1 : (w1).cell? ⟨rR, 1, none⟩ = some (.int .i64 0) := jR.cell 1
      have t2 : (w1).cell? ⟨rR, 2, none⟩ = some (.int .i64 0) := jR.cell 2
      have k9 := ((jR.set 0 (.int .i64 (0))).set 1 (.int .i64 (0))).set 2 (.int .i64 (0))
      have hB9 : Below rC w ((((w1).setCell ⟨rR, 0, none⟩ (.int .i64 (0))).setCell ⟨rR, 1, none⟩ (.int .i64 (0))).setCell ⟨rR, 2, none⟩ (.int .i64 (0))) := (((below_step hb2 (by omega) bb).setCell (by simp; omega) _).setCell (by simp; omega) _).setCell (by simp; omega) _
      (repeat (first | go_skip | go_guarded | go_step))
      generalize (World.setCell (World.setCell (World.setCell _ _ _) _ _) _ _) = w9 at k9 hB9 ⊢
      clear t0 t1 t2 z0 z1 z2
      have q0 : w9.cell? ⟨rR, 0, none⟩ = some (.int .i64 (0)) := k9.cell 0
      have q1 : w9.cell? ⟨rR, 1, none⟩ = some (.int .i64 (0)) := k9.cell 1
      have q2 : w9.cell? ⟨rR, 2, none⟩ = some (.int .i64 (0)) := k9.cell 2
      refine bodyPost_ret (v := .tuple #[.agg #[.int .i64 (0), .int .i64 (0), .int .i64 (0)], .bool false]) (by simp [results, Try.results91, go_sem, q0, q1, q2]) rfl ?_
      exact ⟨rfl, hrC.out ▸ hB9⟩
    · by_cases hn2 : 200 * d < n.natAbs
      · have hRes := HRes.out
        unfold spA at hRes
        rw [if_pos (.inr hn2)] at hRes
        simp only [spR] at hRes
        subst hRes
        go_wp2_with fail
        refine (HAb.out _).mono ?_
        rintro e w2 ⟨rfl, rfl⟩
        have hb2 := Below.refl w1.heap.size w1
        go_upto_region 9 with (fail)
        have l9 := kR.lt
        have jR := kR.next hb2
        have z0 := jR.frozen 0
        have z1 := jR.frozen 1
        have z2 := jR.frozen 2
        have t0 : (w1).cell? ⟨rR, 0, none⟩ = some (.int .i64 0) := jR.cell 0
        have t1 : (w1).cell? ⟨rR, 1, none⟩ = some (.int .i64 0) := jR.cell 1
        have t2 : (w1).cell? ⟨rR, 2, none⟩ = some (.int .i64 0) := jR.cell 2
        have k9 := ((jR.set 0 (.int .i64 (0))).set 1 (.int .i64 (0))).set 2 (.int .i64 (0))
        have hB9 : Below rC w ((((w1).setCell ⟨rR, 0, none⟩ (.int .i64 (0))).setCell ⟨rR, 1, none⟩ (.int .i64 (0))).setCell ⟨rR, 2, none⟩ (.int .i64 (0))) := (((below_step hb2 (by omega) bb).setCell (by simp; omega) _).setCell (by simp; omega) _).setCell (by simp; omega) _
        (repeat (first | go_skip | go_guarded | go_step))
        generalize (World.setCell (World.setCell (World.setCell _ _ _) _ _) _ _) = w9 at k9 hB9 ⊢
        clear t0 t1 t2 z0 z1 z2
        have q0 : w9.cell? ⟨rR, 0, none⟩ = some (.int .i64 (0)) := k9.cell 0
        have q1 : w9.cell? ⟨rR, 1, none⟩ = some (.int .i64 (0)) := k9.cell 1
        have q2 : w9.cell? ⟨rR, 2, none⟩ = some (.int .i64 (0)) := k9.cell 2
        refine bodyPost_ret (v := .tuple #[.agg #[.int .i64 (0), .int .i64 (0), .int .i64 (0)], .bool false]) (by simp [results, Try.results91, go_sem, q0, q1, q2]) rfl ?_
        exact ⟨rfl, hrC.out ▸ hB9⟩
      · go_wp2_with fail
        refine (HAb.out _).mono ?_
        rintro e w2 ⟨rfl, rfl⟩
        replace hnn : -1600000 ≤ n ∧ n ≤ 1600000 := by omega
        replace hdd : 1 ≤ d ∧ d ≤ 8000 := by omega
        have HRes1 : Hid (spR (if rtI (mkD (spT n d X1 E1 X2 E2) (spB d E1 E2)) * rtI (mkD (spT n d X1 E1 X2 E2) (spB d E1 E2)) = mkD (spT n d X1 E1 X2 E2) (spB d E1 E2) ∧ rtI (mkD (spT n d X1 E1 X2 E2) (spB d E1 E2)) ≤ 20 ∧ inB (mkN (spT n d X1 E1 X2 E2) (spB d E1 E2)) (-10000) 10000 = true then
            some (mkN (spT n d X1 E1 X2 E2) (spB d E1 E2), spW n d X1 Y1 E1 (mkN (spT n d X1 E1 X2 E2) (spB d E1 E2)) (rtI (mkD (spT n d X1 E1 X2 E2) (spB d E1 E2))), rtI (mkD (spT n d X1 E1 X2 E2) (spB d E1 E2))) else none) = Res) := by
          have h := HRes.out
          unfold spA at h
          rw [if_neg (by omega)] at h
          exact h
        clear HRes HAb
        have ee1 := mulb (x := E1) (y := E1) 20 20 (by omega) (by omega)
        have ee2 := mulb (x := E2) (y := E2) 20 20 (by omega) (by omega)
        have m1 := mulb (x := n) (y := n) 1600000 1600000 (by omega) (by omega)
        have m2 := mulb (x := n * n) (y := E1 * E1) 2560000000000 400 (by omega) (by omega)
        have m3 := mulb (x := n * n * (E1 * E1)) (y := E2 * E2) 1024000000000000 400 (by omega) (by omega)
        have m4 := mulb (x := X1) (y := d) 10000 8000 (by omega) (by omega)
        have m5 := mulb (x := X1 * d) (y := d) 80000000 8000 (by omega) (by omega)
        have m6 := mulb (x := X1 * d * d) (y := E2 * E2) 640000000000 400 (by omega) (by omega)
        have m7 := mulb (x := X2) (y := d) 10000 8000 (by omega) (by omega)
        have m8 := mulb (x := X2 * d) (y := d) 80000000 8000 (by omega) (by omega)
        have m9 := mulb (x := X2 * d * d) (y := E1 * E1) 640000000000 400 (by omega) (by omega)
        have q1' := mulb (x := d) (y := d) 8000 8000 (by omega) (by omega)
        have q2' := mulb (x := d * d) (y := E1 * E1) 64000000 400 (by omega) (by omega)
        have q3' := mulb (x := d * d * (E1 * E1)) (y := E2 * E2) 25600000000 400 (by omega) (by omega)
        have hT : -500000000000000000 ≤ spT n d X1 E1 X2 E2 ∧ spT n d X1 E1 X2 E2 ≤ 500000000000000000 := by unfold spT; omega
        have hB : 1 ≤ spB d E1 E2 ∧ spB d E1 E2 ≤ 10240000000000 := by
          have r1 := Int.mul_pos (show 0 < d by omega) (show 0 < d by omega)
          have r2 := Int.mul_pos r1 (Int.mul_pos (show 0 < E1 by omega) (show 0 < E1 by omega))
          have r3 := Int.mul_pos r2 (Int.mul_pos (show 0 < E2 by omega) (show 0 < E2 by omega))
          unfold spB; omega
        have HP1 := Lib.hid (fun W => c_ecPart (spT n d X1 E1 X2 E2) (spB d E1 E2) (by omega) (by omega) (by omega) W)
        have eT : n * n * (E1 * E1) * (E2 * E2) - X1 * d * d * (E2 * E2) - X2 * d * d * (E1 * E1) = spT n d X1 E1 X2 E2 := rfl
        have eB : d * d * (E1 * E1) * (E2 * E2) = spB d E1 E2 := rfl
        have hxb := (mk_bd (spT n d X1 E1 X2 E2) (spB d E1 E2))
        have hqp := mkD_pos (n := spT n d X1 E1 X2 E2) (d := spB d E1 E2) (by omega)
        go_upto_region 10 with (fail)
        have lP := kP.lt
        have lQ := kQ.lt
        (refine wp_region_clq (by kernel_rfl) (by kernel_rfl) ?_; (repeat (go_big_quiet_step (fail))); refine wpQuiet_nil ?_; intro w8 hb8; obtain ⟨hc8, hf8⟩ := bcell hb8; have hz8 := hb8.size; (try simp only [World.size_alloc] at hz8))
        replace bb := below_step hb8 (by omega) bb
        replace kP := kP.next hb8
        replace kQ := kQ.next hb8
        replace kR := kR.next hb8
        clear p0 p1 p2 q0 q1 q2 hb8
        replace hz := kR.lt
        have p0 : (w8).cell? ⟨rP, 0, none⟩ = some (.int .i64 X1) := kP.cell 0
        have p1 : (w8).cell? ⟨rP, 1, none⟩ = some (.int .i64 Y1) := kP.cell 1
        have p2 : (w8).cell? ⟨rP, 2, none⟩ = some (.int .i64 E1) := kP.cell 2
        have q0 : (w8).cell? ⟨rQ, 0, none⟩ = some (.int .i64 X2) := kQ.cell 0
        have q1 : (w8).cell? ⟨rQ, 1, none⟩ = some (.int .i64 Y2) := kQ.cell 1
        have q2 : (w8).cell? ⟨rQ, 2, none⟩ = some (.int .i64 E2) := kQ.cell 2
        clear hc8 hf8
        go_wp2_with fail
        refine (HP1.out _).mono ?_
        rintro e w3 ⟨rfl, hb3⟩
        replace bb := below_step hb3 (by omega) bb
        replace kP := kP.next hb3
        replace kQ := kQ.next hb3
        replace kR := kR.next hb3
        clear p0 p1 p2 q0 q1 q2 hb3
        replace hz := kR.lt
        have p0 : (w3).cell? ⟨rP, 0, none⟩ = some (.int .i64 X1) := kP.cell 0
        have p1 : (w3).cell? ⟨rP, 1, none⟩ = some (.int .i64 Y1) := kP.cell 1
        have p2 : (w3).cell? ⟨rP, 2, none⟩ = some (.int .i64 E1) := kP.cell 2
        have q0 : (w3).cell? ⟨rQ, 0, none⟩ = some (.int .i64 X2) := kQ.cell 0
        have q1 : (w3).cell? ⟨rQ, 1, none⟩ = some (.int .i64 Y2) := kQ.cell 1
        have q2 : (w3).cell? ⟨rQ, 2, none⟩ = some (.int .i64 E2) := kQ.cell 2
        clear eT eB HP1 m1 m2 m3 m4 m5 m6 m7 m8 m9 q1' q2' q3'
        have hxx : -500000000000000000 ≤ mkN (spT n d X1 E1 X2 E2) (spB d E1 E2) ∧ mkN (spT n d X1 E1 X2 E2) (spB d E1 E2) ≤ 500000000000000000 := by omega
        have hqq : 1 ≤ mkD (spT n d X1 E1 X2 E2) (spB d E1 E2) ∧ mkD (spT n d X1 E1 X2 E2) (spB d E1 E2) ≤ 10240000000000 := by omega
        clear hxb hqp hT hB
        generalize mkN (spT n d X1 E1 X2 E2) (spB d E1 E2) = x at *
        generalize mkD (spT n d X1 E1 X2 E2) (spB d E1 E2) = q at *
        have HRt := Lib.hid (fun W => c_frRoot q (by omega) W)
        have hrs := rtI_spec (n := q) (by omega)
        have hrl := rtI_le (n := q) (b := 3200001) (by omega) (by omega) (by omega)
        have hr0 := rtI_nonneg q
        generalize rtI q = e at *
        have hee := mulb (x := e) (y := e) 3200001 3200001 (by omega) (by omega)
        go_wp2_with fail
        refine (HRt.out _).mono ?_
        rintro e' w4 ⟨rfl, rfl⟩
        clear HRt
        have HIn := Lib.hid (fun W => c_l1In x (-10000) 10000 W)
        by_cases he1 : e * e = q
        · by_cases he2 : e ≤ 20
          · cases hin : inB x (-10000) 10000
            · have hRes := HRes1.out
              rw [if_neg (fun h => by rw [hin] at h; exact Bool.noConfusion h.2.2)] at hRes
              simp only [spR] at hRes
              subst hRes
              rw [hin] at HIn
              go_wp2_with fail
              refine (HIn.out _).mono ?_
              rintro e' w4 ⟨rfl, rfl⟩
              have hb2 := Below.refl w3.heap.size w3
              go_upto_region 14 with (fail)
              have l9 := kR.lt
              have jR := kR.next hb2
              have z0 := jR.frozen 0
              have z1 := jR.frozen 1
              have z2 := jR.frozen 2
              have t0 : (w3).cell? ⟨rR, 0, none⟩ = some (.int .i64 0) := jR.cell 0
              have t1 : (w3).cell? ⟨rR, 1, none⟩ = some (.int .i64 0) := jR.cell 1
              have t2 : (w3).cell? ⟨rR, 2, none⟩ = some (.int .i64 0) := jR.cell 2
              have k9 := ((jR.set 0 (.int .i64 (0))).set 1 (.int .i64 (0))).set 2 (.int .i64 (0))
              have hB9 : Below rC w ((((w3).setCell ⟨rR, 0, none⟩ (.int .i64 (0))).setCell ⟨rR, 1, none⟩ (.int .i64 (0))).setCell ⟨rR, 2, none⟩ (.int .i64 (0))) := (((below_step hb2 (by omega) bb).setCell (by simp; omega) _).setCell (by simp; omega) _).setCell (by simp; omega) _
              (repeat (first | go_skip | go_guarded | go_step))
              generalize (World.setCell (World.setCell (World.setCell _ _ _) _ _) _ _) = w9 at k9 hB9 ⊢
              clear t0 t1 t2 z0 z1 z2
              have q0 : w9.cell? ⟨rR, 0, none⟩ = some (.int .i64 (0)) := k9.cell 0
              have q1 : w9.cell? ⟨rR, 1, none⟩ = some (.int .i64 (0)) := k9.cell 1
              have q2 : w9.cell? ⟨rR, 2, none⟩ = some (.int .i64 (0)) := k9.cell 2
              refine bodyPost_ret (v := .tuple #[.agg #[.int .i64 (0), .int .i64 (0), .int .i64 (0)], .bool false]) (by simp [results, Try.results91, go_sem, q0, q1, q2]) rfl ?_
              exact ⟨rfl, hrC.out ▸ hB9⟩
            · have hRes := HRes1.out
              rw [if_pos ⟨he1, he2, hin⟩] at hRes
              simp only [spR] at hRes
              rw [hin] at HIn
              have hxs := inB_true hin
              go_wp2_with fail
              refine (HIn.out _).mono ?_
              rintro e' w4 ⟨rfl, rfl⟩
              have hE0 : 1 ≤ e := by
                rcases Int.lt_or_le 0 e with h | h
                · omega
                · have : e = 0 := by omega
                  rw [this] at he1; omega
              have x1 := mulb (x := X1) (y := e) 10000 20 (by omega) (by omega)
              have x2 := mulb (x := X1 * e) (y := e) 200000 20 (by omega) (by omega)
              have x3 := mulb (x := x) (y := E1 * E1) 10000 400 (by omega) (by omega)
              have x4 := mulb (x := n) (y := X1 * e * e - x * (E1 * E1)) 1600000 8000000 (by omega) (by omega)
              have v1 := mulb (x := d) (y := E1 * E1) 8000 400 (by omega) (by omega)
              have v2 := mulb (x := d * (E1 * E1)) (y := e) 3200000 20 (by omega) (by omega)
              have v3 := mulb (x := d * (E1 * E1) * e) (y := e) 64000000 20 (by omega) (by omega)
              have hU : -12800000000000 ≤ spU n X1 E1 x e ∧ spU n X1 E1 x e ≤ 12800000000000 := by unfold spU; omega
              have hV : 1 ≤ spV d E1 e ∧ spV d E1 e ≤ 1280000000 := by
                have r1 := Int.mul_pos (show 0 < d by omega) (Int.mul_pos (show 0 < E1 by omega) (show 0 < E1 by omega))
                have r2 := Int.mul_pos (Int.mul_pos r1 (show 0 < e by omega)) (show 0 < e by omega)
                unfold spV; omega
              have eU : n * (X1 * e * e - x * (E1 * E1)) = spU n X1 E1 x e := rfl
              have eV : d * (E1 * E1) * e * e = spV d E1 e := rfl
              have HP2 := Lib.hid (fun W => c_ecPart (spU n X1 E1 x e) (spV d E1 e) (by omega) (by omega) (by omega) W)
              have HW : Hid (spW n d X1 Y1 E1 x e = spY (mkN (spG (mkN (spU n X1 E1 x e) (spV d E1 e)) (mkD (spU n X1 E1 x e) (spV d E1 e)) Y1 E1) (spH (mkD (spU n X1 E1 x e) (spV d E1 e)) E1)) (mkD (spG (mkN (spU n X1 E1 x e) (spV d E1 e)) (mkD (spU n X1 E1 x e) (spV d E1 e)) Y1 E1) (spH (mkD (spU n X1 E1 x e) (spV d E1 e)) E1)) e) := rfl
              rw [HW.out] at hRes
              have HRes2 := Lib.hid hRes
              have hub := mk_bd (spU n X1 E1 x e) (spV d E1 e)
              have hup := mkD_pos (n := spU n X1 E1 x e) (d := spV d E1 e) (by omega)
              clear hRes HW HRes1 HIn
              go_wp2_with fail
              refine (HP2.out _).mono ?_
              rintro e' w5 ⟨rfl, hb5⟩
              replace bb := below_step hb5 (by omega) bb
              replace kP := kP.next hb5
              replace kQ := kQ.next hb5
              replace kR := kR.next hb5
              clear p0 p1 p2 q0 q1 q2 hb5
              replace hz := kR.lt
              have p0 : (w5).cell? ⟨rP, 0, none⟩ = some (.int .i64 X1) := kP.cell 0
              have p1 : (w5).cell? ⟨rP, 1, none⟩ = some (.int .i64 Y1) := kP.cell 1
              have p2 : (w5).cell? ⟨rP, 2, none⟩ = some (.int .i64 E1) := kP.cell 2
              have q0 : (w5).cell? ⟨rQ, 0, none⟩ = some (.int .i64 X2) := kQ.cell 0
              have q1 : (w5).cell? ⟨rQ, 1, none⟩ = some (.int .i64 Y2) := kQ.cell 1
              have q2 : (w5).cell? ⟨rQ, 2, none⟩ = some (.int .i64 E2) := kQ.cell 2
              clear HP2 eU eV x1 x2 x3 x4 v1 v2 v3
              have huu : -12800000000000 ≤ mkN (spU n X1 E1 x e) (spV d E1 e) ∧ mkN (spU n X1 E1 x e) (spV d E1 e) ≤ 12800000000000 := by omega
              have hvv : 1 ≤ mkD (spU n X1 E1 x e) (spV d E1 e) ∧ mkD (spU n X1 E1 x e) (spV d E1 e) ≤ 1280000000 := by omega
              clear hub hup hU hV
              generalize mkN (spU n X1 E1 x e) (spV d E1 e) = u at *
              generalize mkD (spU n X1 E1 x e) (spV d E1 e) = v at *
              have y1 := mulb (x := u) (y := E1 * E1) 12800000000000 400 (by omega) (by omega)
              have y2 := mulb (x := u * (E1 * E1)) (y := E1) 5120000000000000 20 (by omega) (by omega)
              have y3 := mulb (x := Y1) (y := v) 3000000 1280000000 (by omega) (by omega)
              have y4 := mulb (x := v) (y := E1 * E1) 1280000000 400 (by omega) (by omega)
              have y5 := mulb (x := v * (E1 * E1)) (y := E1) 512000000000 20 (by omega) (by omega)
              have hG : -110000000000000000 ≤ spG u v Y1 E1 ∧ spG u v Y1 E1 ≤ 110000000000000000 := by unfold spG; omega
              have hH : 1 ≤ spH v E1 ∧ spH v E1 ≤ 10240000000000 := by
                have r1 := Int.mul_pos (Int.mul_pos (show 0 < v by omega) (Int.mul_pos (show 0 < E1 by omega) (show 0 < E1 by omega))) (show 0 < E1 by omega)
                unfold spH; omega
              have eG : u * (E1 * E1) * E1 - Y1 * v = spG u v Y1 E1 := rfl
              have eH : v * (E1 * E1) * E1 = spH v E1 := rfl
              have HP3 := Lib.hid (fun W => c_ecPart (spG u v Y1 E1) (spH v E1) (by omega) (by omega) (by omega) W)
              have hgb := mk_bd (spG u v Y1 E1) (spH v E1)
              have hgp := mkD_pos (n := spG u v Y1 E1) (d := spH v E1) (by omega)
              go_wp2_with fail
              refine (HP3.out _).mono ?_
              rintro e' w6 ⟨rfl, hb6⟩
              replace bb := below_step hb6 (by omega) bb
              replace kP := kP.next hb6
              replace kQ := kQ.next hb6
              replace kR := kR.next hb6
              clear p0 p1 p2 q0 q1 q2 hb6
              replace hz := kR.lt
              have p0 : (w6).cell? ⟨rP, 0, none⟩ = some (.int .i64 X1) := kP.cell 0
              have p1 : (w6).cell? ⟨rP, 1, none⟩ = some (.int .i64 Y1) := kP.cell 1
              have p2 : (w6).cell? ⟨rP, 2, none⟩ = some (.int .i64 E1) := kP.cell 2
              have q0 : (w6).cell? ⟨rQ, 0, none⟩ = some (.int .i64 X2) := kQ.cell 0
              have q1 : (w6).cell? ⟨rQ, 1, none⟩ = some (.int .i64 Y2) := kQ.cell 1
              have q2 : (w6).cell? ⟨rQ, 2, none⟩ = some (.int .i64 E2) := kQ.cell 2
              clear HP3 eG eH y1 y2 y3 y4 y5 p0 p1 p2 q0 q1 q2
              have hyy : -110000000000000000 ≤ mkN (spG u v Y1 E1) (spH v E1) ∧ mkN (spG u v Y1 E1) (spH v E1) ≤ 110000000000000000 := by omega
              have hoo : 1 ≤ mkD (spG u v Y1 E1) (spH v E1) ∧ mkD (spG u v Y1 E1) (spH v E1) ≤ 10240000000000 := by omega
              clear hgb hgp hG hH
              generalize mkN (spG u v Y1 E1) (spH v E1) = y at *
              generalize mkD (spG u v Y1 E1) (spH v E1) = bo at *
              clear he1 hrs
              have k1 := mulb (x := e) (y := e) 20 20 (by omega) (by omega)
              have k2 := mulb (x := e * e) (y := e) 400 20 (by omega) (by omega)
              have k3 := tdiv_abs (e * e * e) bo
              have k4 : IntKind.i64.wrap ((e * e * e).tdiv bo) = (e * e * e).tdiv bo := IntWalk.i64_in _ (by omega)
              have hbo : (bo == 0) = false := by simp; omega
              have hbo2 : bo ≠ 0 := by omega
              have hRes := HRes2.out
              unfold spY at hRes
              subst hRes
              clear HRes2
              have hb7 := Below.refl w6.heap.size w6
              go_upto_region 17 with (fail)
              have l9 := kR.lt
              have jR := kR.next hb7
              have z0 := jR.frozen 0
              have z1 := jR.frozen 1
              have z2 := jR.frozen 2
              have t0 : (w6).cell? ⟨rR, 0, none⟩ = some (.int .i64 0) := jR.cell 0
              have t1 : (w6).cell? ⟨rR, 1, none⟩ = some (.int .i64 0) := jR.cell 1
              have t2 : (w6).cell? ⟨rR, 2, none⟩ = some (.int .i64 0) := jR.cell 2
              have k9 := ((jR.set 0 (.int .i64 (x))).set 1 (.int .i64 (wrap64 (y * (e * e * e).tdiv bo)))).set 2 (.int .i64 (e))
              have hB9 : Below rC w ((((w6).setCell ⟨rR, 0, none⟩ (.int .i64 (x))).setCell ⟨rR, 1, none⟩ (.int .i64 (wrap64 (y * (e * e * e).tdiv bo)))).setCell ⟨rR, 2, none⟩ (.int .i64 (e))) := (((below_step hb7 (by omega) bb).setCell (by simp; omega) _).setCell (by simp; omega) _).setCell (by simp; omega) _
              (repeat (first | go_skip | go_guarded | go_step))
              generalize (World.setCell (World.setCell (World.setCell _ _ _) _ _) _ _) = w9 at k9 hB9 ⊢
              clear t0 t1 t2 z0 z1 z2
              have q0 : w9.cell? ⟨rR, 0, none⟩ = some (.int .i64 (x)) := k9.cell 0
              have q1 : w9.cell? ⟨rR, 1, none⟩ = some (.int .i64 (wrap64 (y * (e * e * e).tdiv bo))) := k9.cell 1
              have q2 : w9.cell? ⟨rR, 2, none⟩ = some (.int .i64 (e)) := k9.cell 2
              refine bodyPost_ret (v := .tuple #[.agg #[.int .i64 (x), .int .i64 (wrap64 (y * (e * e * e).tdiv bo)), .int .i64 (e)], .bool true]) (by simp [results, Try.results91, go_sem, q0, q1, q2]) rfl ?_
              exact ⟨rfl, hrC.out ▸ hB9⟩
          · have hRes := HRes1.out
            rw [if_neg (fun h => he2 h.2.1)] at hRes
            simp only [spR] at hRes
            subst hRes
            have hb2 := Below.refl w3.heap.size w3
            go_upto_region 14 with (fail)
            have l9 := kR.lt
            have jR := kR.next hb2
            have z0 := jR.frozen 0
            have z1 := jR.frozen 1
            have z2 := jR.frozen 2
            have t0 : (w3).cell? ⟨rR, 0, none⟩ = some (.int .i64 0) := jR.cell 0
            have t1 : (w3).cell? ⟨rR, 1, none⟩ = some (.int .i64 0) := jR.cell 1
            have t2 : (w3).cell? ⟨rR, 2, none⟩ = some (.int .i64 0) := jR.cell 2
            have k9 := ((jR.set 0 (.int .i64 (0))).set 1 (.int .i64 (0))).set 2 (.int .i64 (0))
            have hB9 : Below rC w ((((w3).setCell ⟨rR, 0, none⟩ (.int .i64 (0))).setCell ⟨rR, 1, none⟩ (.int .i64 (0))).setCell ⟨rR, 2, none⟩ (.int .i64 (0))) := (((below_step hb2 (by omega) bb).setCell (by simp; omega) _).setCell (by simp; omega) _).setCell (by simp; omega) _
            (repeat (first | go_skip | go_guarded | go_step))
            generalize (World.setCell (World.setCell (World.setCell _ _ _) _ _) _ _) = w9 at k9 hB9 ⊢
            clear t0 t1 t2 z0 z1 z2
            have q0 : w9.cell? ⟨rR, 0, none⟩ = some (.int .i64 (0)) := k9.cell 0
            have q1 : w9.cell? ⟨rR, 1, none⟩ = some (.int .i64 (0)) := k9.cell 1
            have q2 : w9.cell? ⟨rR, 2, none⟩ = some (.int .i64 (0)) := k9.cell 2
            refine bodyPost_ret (v := .tuple #[.agg #[.int .i64 (0), .int .i64 (0), .int .i64 (0)], .bool false]) (by simp [results, Try.results91, go_sem, q0, q1, q2]) rfl ?_
            exact ⟨rfl, hrC.out ▸ hB9⟩
        · have hRes := HRes1.out
          rw [if_neg (fun h => he1 h.1)] at hRes
          simp only [spR] at hRes
          subst hRes
          have hb2 := Below.refl w3.heap.size w3
          go_upto_region 14 with (fail)
          have l9 := kR.lt
          have jR := kR.next hb2
          have z0 := jR.frozen 0
          have z1 := jR.frozen 1
          have z2 := jR.frozen 2
          have t0 : (w3).cell? ⟨rR, 0, none⟩ = some (.int .i64 0) := jR.cell 0
          have t1 : (w3).cell? ⟨rR, 1, none⟩ = some (.int .i64 0) := jR.cell 1
          have t2 : (w3).cell? ⟨rR, 2, none⟩ = some (.int .i64 0) := jR.cell 2
          have k9 := ((jR.set 0 (.int .i64 (0))).set 1 (.int .i64 (0))).set 2 (.int .i64 (0))
          have hB9 : Below rC w ((((w3).setCell ⟨rR, 0, none⟩ (.int .i64 (0))).setCell ⟨rR, 1, none⟩ (.int .i64 (0))).setCell ⟨rR, 2, none⟩ (.int .i64 (0))) := (((below_step hb2 (by omega) bb).setCell (by simp; omega) _).setCell (by simp; omega) _).setCell (by simp; omega) _
          (repeat (first | go_skip | go_guarded | go_step))
          generalize (World.setCell (World.setCell (World.setCell _ _ _) _ _) _ _) = w9 at k9 hB9 ⊢
          clear t0 t1 t2 z0 z1 z2
          have q0 : w9.cell? ⟨rR, 0, none⟩ = some (.int .i64 (0)) := k9.cell 0
          have q1 : w9.cell? ⟨rR, 1, none⟩ = some (.int .i64 (0)) := k9.cell 1
          have q2 : w9.cell? ⟨rR, 2, none⟩ = some (.int .i64 (0)) := k9.cell 2
          refine bodyPost_ret (v := .tuple #[.agg #[.int .i64 (0), .int .i64 (0), .int .i64 (0)], .bool false]) (by simp [results, Try.results91, go_sem, q0, q1, q2]) rfl ?_
          exact ⟨rfl, hrC.out ▸ hB9⟩
end Go.Proofs.Ytcnfjapoopdiaaa
